/- The law of spans: the walk. Printed by gen_ld.py. -/
import Derived.Test.YtpgdefgdboijlaaGreatDoorSl
import Derived.Test.YtpgdefgdboijlaaGreatDoorSm
import Derived.Test.YtpgdefgdboijlaaGreatDoorSn
import Derived.Test.YtpgdefgdboijlaaGreatDoorSi
import Derived.Test.YtpgdefgdboijlaaGreatDoorSb
import Derived.Test.YtpgdefgdboijlaaGreatDoorSe
set_option linter.unusedVariables false
set_option maxRecDepth 100000
set_option maxHeartbeats 16000000
namespace Go.Proofs.YtpgdefgdboijlaaGreatDoor
open Go.RowKit
theorem setG4 (w:World) (o p q r:Obj):Ext w ((((w.alloc o).alloc p).alloc q).alloc r)∧((((w.alloc o).alloc p).alloc q).alloc r).heap[w.heap.size]?=some o∧((((w.alloc o).alloc p).alloc q).alloc r).heap[w.heap.size+1]?=some p∧((((w.alloc o).alloc p).alloc q).alloc r).heap[w.heap.size+1+1]?=some q∧((((w.alloc o).alloc p).alloc q).alloc r).heap[w.heap.size+1+1+1]?=some r:=by
 obtain⟨h1,h2,h3,h4⟩:=setG3 w o p q;have k:=ab (((w.alloc o).alloc p).alloc q) r;refine⟨al h1 k,(k.block _ (lt_of_block h2)).trans h2,(k.block _ (lt_of_block h3)).trans h3,(k.block _ (lt_of_block h4)).trans h4,?_⟩;rw [←aC w o,←aC (w.alloc o) p,←aC ((w.alloc o).alloc p) q];exact heap_alloc_new _ _
def divP (a b c d:Rat):Int × Rat × Rat:=if hasB c d 0=true then (8,0,0) else (0,(mulS a b (1 / d) (1 / c)).1,(mulS a b (1 / d) (1 / c)).2)
theorem divP_yes {a b c d:Rat} (h:hasB c d 0=true):divP a b c d=(8,0,0):=if_pos h
theorem divP_no {a b c d:Rat} (h:hasB c d 0=false):divP a b c d=(0,(mulS a b (1 / d) (1 / c)).1,(mulS a b (1 / d) (1 / c)).2):=if_neg (by rw [h];decide)
theorem div_any_c (va vb:Value) (qa qb qc qd:Rat) (w:World) (ha:Sp w va qa qb) (hb:Sp w vb qc qd) (p1:Bq 5000 qa) (p2:Bq 5000 qb) (p3:Bq 5000 qc) (p4:Bq 5000 qd):Calls Tryz.prog 76 #[va,vb] w fun e w'=>∃v,e=.returned (.tuple #[v,.int .i64 (divP qa qb qc qd).1])∧Sp w' v (divP qa qb qc qd).2.1 (divP qa qb qc qd).2.2∧Ext w w':=by
 cases h:hasB qc qd 0
 ·rw [divP_no h];exact divS_ok 5000 (by decide) va vb qa qb qc qd w ha hb p1 p2 p3 p4 h
 ·rw [divP_yes h];exact divS_zero 5000 (by decide) va vb qa qb qc qd w ha hb p1 p2 p3 p4 h
theorem div_any_n (va vb:Value) (qa qb qc qd:Rat) (w:World) (ha:SpR w va qa qb) (hb:SpR w vb qc qd) (p1:Bq 5000 qa) (p2:Bq 5000 qb) (p3:Bq 5000 qc) (p4:Bq 5000 qd):Calls Tryz.prog 80 #[va,vb] w fun e w'=>∃v,e=.returned (.tuple #[v,.int .i64 (divP qa qb qc qd).1])∧(∀W,AgreeA w.heap.size w' W→SpR W v (divP qa qb qc qd).2.1 (divP qa qb qc qd).2.2)∧Ext w w':=by
 cases h:hasB qc qd 0
 ·rw [divP_no h,mulS_swap];exact div_sp_ok 5000 (by decide) va vb qa qb qc qd w ha hb p1 p2 p3 p4 h
 ·rw [divP_yes h];exact div_sp_zero 5000 (by decide) va vb qa qb qc qd w ha hb p1 p2 p3 p4 h
theorem bq_join {M:Nat} {s t:Rat × Rat} (hs:Bq M s.1∧Bq M s.2) (ht:Bq M t.1∧Bq M t.2):Bq M (av s.1 t.1)∧Bq M (aw s.2 t.2):=by
 constructor
 ·unfold av;split;exact ht.1;exact hs.1
 ·unfold aw;split;exact ht.2;exact hs.2
theorem bq_meet {M:Nat} {s t:Rat × Rat} (hs:Bq M s.1∧Bq M s.2) (ht:Bq M t.1∧Bq M t.2):Bq M (meetQ s t).1∧Bq M (meetQ s t).2:=by
 unfold meetQ
 split
 ·exact⟨bz0 hs.1,bz0 hs.1⟩
 ·constructor
  ·show Bq M (aw s.1 t.1);unfold aw;split;exact ht.1;exact hs.1
  ·show Bq M (av s.2 t.2);unfold av;split;exact ht.2;exact hs.2
theorem bq_mul4 {M:Nat} {a b c d:Rat} (ha:Bq M a) (hb:Bq M b) (hc:Bq M c) (hd:Bq M d):Bq (M+M) (mulS a b c d).1∧Bq (M+M) (mulS a b c d).2:=
 bq_join (bq_sort (ha.mul hc) (ha.mul hd)) (bq_sort (hb.mul hc) (hb.mul hd))
theorem bq_div {a b c d:Rat} (ha:Bq 5000 a) (hb:Bq 5000 b) (hc:Bq 5000 c) (hd:Bq 5000 d):Bq (5000+5000) (divP a b c d).2.1∧Bq (5000+5000) (divP a b c d).2.2:=by
 cases h:hasB c d 0
 ·rw [divP_no h]
  obtain⟨h1,h2⟩:=ends_ne h;exact bq_mul4 ha hb (bq_inv1 hd h2) (bq_inv1 hc h1)
 ·rw [divP_yes h];exact⟨(bz0 ha).mono (by decide),(bz0 ha).mono (by decide)⟩
theorem bq_pow4 {M n:Nat} {s:Rat × Rat} (h:Bq M s.1∧Bq M s.2) (hn:n≤64):Bq (M*64+1) (powS s n).1∧Bq (M*64+1) (powS s n).2:=by
 have hE:Bq M (powE s n).1∧Bq M (powE s n).2:=by
  have hf:Bq M (flipE s n).1∧Bq M (flipE s n).2:=by unfold flipE;split;exact⟨h.2.neg,h.1.neg⟩;exact h
  unfold powE
  split
  ·refine⟨bz0 h.1,?_⟩
   show Bq M (aw _ _)
   unfold aw;split;exact hf.2;exact hf.1.neg
  ·exact hf
 exact⟨(hE.1.pow n).mono (Nat.add_le_add_right (Nat.mul_le_mul_left M hn) 1),(hE.2.pow n).mono (Nat.add_le_add_right (Nat.mul_le_mul_left M hn) 1)⟩
theorem bq_of (a b:List UInt8):Bq 5000 (ofS a b).2.1∧Bq 5000 (ofS a b).2.2:=by
 have h1:=(aB a).mono (show 4001≤5000 by decide);have h2:=(aB b).mono (show 4001≤5000 by decide);unfold ofS
 split
 ·exact⟨bz0 h1,bz0 h1⟩
 ·split
  ·exact⟨bz0 h1,bz0 h1⟩
  ·split
   ·exact⟨bz0 h1,bz0 h1⟩
   ·exact⟨h1,h2⟩
theorem sub_eq (c d:Rat):(ar (negS c d).1 (negS c d).2).1 = -(ar c d).2∧(ar (negS c d).1 (negS c d).2).2 = -(ar c d).1:=by
 rw [negS_sort,show ar (-(ar c d).2,-(ar c d).1).1 (-(ar c d).2,-(ar c d).1).2=(-(ar c d).2,-(ar c d).1) from sort_eq (Rat.neg_le_neg (sort_le c d))];exact⟨rfl,rfl⟩
theorem neg_eq (a b:Rat):(negS a b).1 = -(ar a b).2∧(negS a b).2 = -(ar a b).1:=by rw [negS_sort];exact⟨rfl,rfl⟩
theorem Wd.keepU {W W':World} {v:Value} {n g:Nat} (h:Wd W v n) (hg:∀(j:Nat) (z:Int),W.cell? ⟨g,j,none⟩≠some (.int .u64 z)) (hk:∀b,b≠g→W'.heap[b]?=W.heap[b]?):Wd W' v n:=by
 obtain⟨A,cc,e,hc,hcl⟩:=h;refine⟨A,cc,e,hc,?_⟩
 rcases Nat.eq_zero_or_pos (dg n).length with h0|h0
 ·left;rw [List.length_eq_zero_iff.1 h0];rfl
 ·obtain⟨bl,o,hA,hce⟩:=hcl.at_ (by simpa using h0)
  right
  refine⟨bl,o,hA,fun j hj=>?_⟩;have hj':j<(dg n).length:=by simpa using hj
  have h1:=hce j hj
  have hne:bl≠g:=by
   intro hb;subst hb;rw [getD_map_u64 _ _ hj'] at h1;exact hg _ _ h1
  rw [←h1];exact World.cell?_of_block (hk _ hne)
theorem Sp.keepU {W W':World} {v:Value} {lo hi:Rat} {g:Nat} (h:Sp W v lo hi) (hg:∀(j:Nat) (z:Int),W.cell? ⟨g,j,none⟩≠some (.int .u64 z)) (hk:∀b,b≠g→W'.heap[b]?=W.heap[b]?):Sp W' v lo hi:=by
 obtain⟨x0,x1,x2,y0,y1,y2,e,⟨vn,vd,e1,h1,h2⟩,⟨vm,vf,e2,h3,h4⟩⟩:=h;exact⟨x0,x1,x2,y0,y1,y2,e,⟨vn,vd,e1,h1.keepU hg hk,h2.keepU hg hk⟩,⟨vm,vf,e2,h3.keepU hg hk,h4.keepU hg hk⟩⟩
theorem noU {W:World} {g:Nat} {s1 A1 k1 ca1 B1 l1 cb1 s2 A2 k2 ca2 B2 l2 cb2:_} (h:W.heap[g]?=some (.cells #[.int .i64 s1,.slice A1 k1 ca1,.slice B1 l1 cb1,.int .i64 s2,.slice A2 k2 ca2,.slice B2 l2 cb2] 85 (0,0))):∀(j:Nat) (z:Int),W.cell? ⟨g,j,none⟩≠some (.int .u64 z):=by
 intro j z he;rw [cell_of_row W g j _ _ _ h] at he
 match j,he with
 | 0,he=>simp at he
 | 1,he=>simp at he
 | 2,he=>simp at he
 | 3,he=>simp at he
 | 4,he=>simp at he
 | 5,he=>simp at he
 | j+6,he=>simp at he
theorem spans_law (a b c d:List UInt8) (ha:a.length≤9223372036854775807) (hb:b.length≤9223372036854775807) (hc:c.length≤9223372036854775807) (hd:d.length≤9223372036854775807) (n bits:Int) (N:Nat) (hN:min (max n 0) 64=(N:Int)) (r:Bool) (his:(((parseS a).1 == 0) && ((parseS b).1 == 0) && ((parseS c).1 == 0) && ((parseS d).1 == 0))=r) (w:World) (ht:Tab w):Calls Tryz.prog 15 #[.agg #[.string ⟨a.toArray⟩,.string ⟨b.toArray⟩,.string ⟨c.toArray⟩,.string ⟨d.toArray⟩],.int .i64 n,.int .i64 bits] w fun e w'=>e=.returned (.bool true)∧Ext w w':=by
 have SP:=ZZ (spans_c a b c d ha hb hc hd);have OV:=ZZ (of_c a b ha hb);have ON:=ZZ (of_n a b ha hb);have BO:=ZZ (bq_of a b);have BA:=ZZ (show Bq 5000 (parseS a).2 from (aB a).mono (by decide));have BB:=ZZ (show Bq 5000 (parseS b).2 from (aB b).mono (by decide));have BC:=ZZ (show Bq 5000 (parseS c).2 from (aB c).mono (by decide));have BD:=ZZ (show Bq 5000 (parseS d).2 from (aB d).mono (by decide));have HT:=ZZ ht;have HN:=ZZ hN;have HN64:=ZZ (show N≤64 by omega);unfold SpansR at SP;rw [his] at SP;obtain⟨eo,heo⟩:∃e,(ofS a b).1=e:=⟨_,rfl⟩;obtain⟨o1,ho1⟩:∃e,(ofS a b).2.1=e:=⟨_,rfl⟩;obtain⟨o2,ho2⟩:∃e,(ofS a b).2.2=e:=⟨_,rfl⟩;rw [heo,ho1,ho2] at OV ON;rw [ho1,ho2] at BO;clear heo ho1 ho2 his ha hb hc hd ht hN;generalize (parseS a).2=qa at *;generalize (parseS b).2=qb at *;generalize (parseS c).2=qc at *;generalize (parseS d).2=qd at *;have F0:=ZZ (ab w (.cells #[.string ⟨a.toArray⟩,.string ⟨b.toArray⟩,.string ⟨c.toArray⟩,.string ⟨d.toArray⟩] 83));have RF:=ZZ (heap_alloc_new w (.cells #[.string ⟨a.toArray⟩,.string ⟨b.toArray⟩,.string ⟨c.toArray⟩,.string ⟨d.toArray⟩] 83))
 go_enter Tryz.func15,Tryz.ntmps15
 go_wp2_with fail;refine(SP.out _).mono ?_
 rintro e w1 ⟨v1,v2,v3,v4,rfl,h1,h2,h3,h4,kk⟩;obtain⟨b1,A1,k1,ca1,B1,l1,cb1,b2,A2,k2,ca2,B2,l2,cb2,rfl,-,-⟩:=h1.form;obtain⟨b3,A3,k3,ca3,B3,l3,cb3,b4,A4,k4,ca4,B4,l4,cb4,rfl,-,-⟩:=h2.form;obtain⟨s5,A5,k5,ca5,B5,l5,cb5,s6,A6,k6,ca6,B6,l6,cb6,rfl⟩:=h3.form2;obtain⟨s7,A7,k7,ca7,B7,l7,cb7,s8,A8,k8,ca8,B8,l8,cb8,rfl⟩:=h4.form2;obtain⟨hx,r1,r2,r3,r4⟩:=setG4 w1 (.cells #[.bool b1,.slice A1 k1 ca1,.slice B1 l1 cb1,.bool b2,.slice A2 k2 ca2,.slice B2 l2 cb2] 68) (.cells #[.bool b3,.slice A3 k3 ca3,.slice B3 l3 cb3,.bool b4,.slice A4 k4 ca4,.slice B4 l4 cb4] 68) (.cells #[.int .i64 s5,.slice A5 k5 ca5,.slice B5 l5 cb5,.int .i64 s6,.slice A6 k6 ca6,.slice B6 l6 cb6] 85) (.cells #[.int .i64 s7,.slice A7 k7 ca7,.slice B7 l7 cb7,.int .i64 s8,.slice A8 k8 ca8,.slice B8 l8 cb8] 85);have HR0:=ZZ (And.intro r1 (And.intro r2 (And.intro r3 r4)));have RF1:=ZZ (((al kk hx).block _ (lt_of_block RF.out)).trans RF.out);have E1:=ZZ (al F0.out (al kk hx));have HA:=ZZ (h1.mono hx);have HB:=ZZ (h2.mono hx);have HC:=ZZ (h3.mono hx);have HD:=ZZ (h4.mono hx);clear h1 h2 h3 h4 kk hx r1 r2 r3 r4 SP F0 RF
 go_upto_region 2 with (fail)
 generalize ((((w1.alloc (.cells #[.bool b1,.slice A1 k1 ca1,.slice B1 l1 cb1,.bool b2,.slice A2 k2 ca2,.slice B2 l2 cb2] _)).alloc (.cells #[.bool b3,.slice A3 k3 ca3,.slice B3 l3 cb3,.bool b4,.slice A4 k4 ca4,.slice B4 l4 cb4] _)).alloc (.cells #[.int .i64 s5,.slice A5 k5 ca5,.slice B5 l5 cb5,.int .i64 s6,.slice A6 k6 ca6,.slice B6 l6 cb6] _)).alloc (.cells #[.int .i64 s7,.slice A7 k7 ca7,.slice B7 l7 cb7,.int .i64 s8,.slice A8 k8 ca8,.slice B8 l8 cb8] _))=W0 at *;generalize w1.heap.size=g1 at *;generalize w.heap.size=gF at *
 have HR:=ZZ (show ∀W:World,Ext W0 W→W.heap[g1]?=some (.cells #[.bool b1,.slice A1 k1 ca1,.slice B1 l1 cb1,.bool b2,.slice A2 k2 ca2,.slice B2 l2 cb2] 68 (0,0))∧W.heap[g1+1]?=some (.cells #[.bool b3,.slice A3 k3 ca3,.slice B3 l3 cb3,.bool b4,.slice A4 k4 ca4,.slice B4 l4 cb4] 68 (0,0))∧W.heap[g1+1+1]?=some (.cells #[.int .i64 s5,.slice A5 k5 ca5,.slice B5 l5 cb5,.int .i64 s6,.slice A6 k6 ca6,.slice B6 l6 cb6] 85 (0,0))∧W.heap[g1+1+1+1]?=some (.cells #[.int .i64 s7,.slice A7 k7 ca7,.slice B7 l7 cb7,.int .i64 s8,.slice A8 k8 ca8,.slice B8 l8 cb8] 85 (0,0)) from fun W h=>by
  obtain⟨r1,r2,r3,r4⟩:=HR0.out;exact⟨(h.block _ (lt_of_block r1)).trans r1,(h.block _ (lt_of_block r2)).trans r2,(h.block _ (lt_of_block r3)).trans r3,(h.block _ (lt_of_block r4)).trans r4⟩)
 clear HR0;obtain⟨f0,f1,f2,f3⟩:=ay RF1.out;go_wp2_with fail;refine(OV.out _).mono ?_;rintro e w2 ⟨v,rfl,h,k⟩;obtain⟨b9,A9,k9,ca9,B9,l9,cb9,b10,A10,k10,ca10,B10,l10,cb10,rfl,-,-⟩:=h.form;have hx:=al k (ab w2 (.cells #[.bool b9,.slice A9 k9 ca9,.slice B9 l9 cb9,.bool b10,.slice A10 k10 ca10,.slice B10 l10 cb10] 68));have RF2:=ZZ ((hx.block _ (lt_of_block RF1.out)).trans RF1.out);have E2:=ZZ hx;have GE2:=ZZ (show W0.heap.size≤w2.heap.size from k.size);have HO:=ZZ (h.mono (ab w2 (.cells #[.bool b9,.slice A9 k9 ca9,.slice B9 l9 cb9,.bool b10,.slice A10 k10 ca10,.slice B10 l10 cb10] 68)));have R9:=ZZ (heap_alloc_new w2 (.cells #[.bool b9,.slice A9 k9 ca9,.slice B9 l9 cb9,.bool b10,.slice A10 k10 ca10,.slice B10 l10 cb10] 68));clear f0 f1 f2 f3 h k hx RF1 OV
 go_upto_region 3 with (fail)
 generalize w2.alloc (.cells #[.bool b9,.slice A9 k9 ca9,.slice B9 l9 cb9,.bool b10,.slice A10 k10 ca10,.slice B10 l10 cb10] _)=W2 at *;generalize w2.heap.size=g2 at *;obtain⟨f0,f1,f2,f3⟩:=ay RF2.out;go_wp2_with fail;refine(ON.out _).mono ?_;rintro e w3 ⟨v,rfl,h,k⟩;obtain⟨s11,A11,k11,ca11,B11,l11,cb11,s12,A12,k12,ca12,B12,l12,cb12,rfl⟩:=h.form2;have hx:=al k (ab w3 (.cells #[.int .i64 s11,.slice A11 k11 ca11,.slice B11 l11 cb11,.int .i64 s12,.slice A12 k12 ca12,.slice B12 l12 cb12] 85));have E3:=ZZ (al E2.out hx);have HO4:=ZZ (HO.out.mono hx);have HP4:=ZZ (h.mono (ab w3 (.cells #[.int .i64 s11,.slice A11 k11 ca11,.slice B11 l11 cb11,.int .i64 s12,.slice A12 k12 ca12,.slice B12 l12 cb12] 85)));have R9':=ZZ ((hx.block _ (lt_of_block R9.out)).trans R9.out);have R11:=ZZ (heap_alloc_new w3 (.cells #[.int .i64 s11,.slice A11 k11 ca11,.slice B11 l11 cb11,.int .i64 s12,.slice A12 k12 ca12,.slice B12 l12 cb12] 85));have GE3:=ZZ (show W0.heap.size≤w3.heap.size from (al E2.out k).size);have L2:=ZZ (show g2<w3.heap.size from lt_of_block ((k.block _ (lt_of_block R9.out)).trans R9.out));clear f0 f1 f2 f3 h k hx RF2 ON HO R9
 go_upto_region 4 with (fail)
 generalize w3.alloc (.cells #[.int .i64 s11,.slice A11 k11 ca11,.slice B11 l11 cb11,.int .i64 s12,.slice A12 k12 ca12,.slice B12 l12 cb12] _)=W4 at *;generalize w3.heap.size=g3 at *;have E4:=ZZ (al E1.out E3.out);have TB:=ZZ (HT.out.mono E4.out)
 have HR4:=ZZ (show ∀W:World,Ext W4 W→(W.heap[g1]?=some (.cells #[.bool b1,.slice A1 k1 ca1,.slice B1 l1 cb1,.bool b2,.slice A2 k2 ca2,.slice B2 l2 cb2] 68 (0,0))∧W.heap[g1+1]?=some (.cells #[.bool b3,.slice A3 k3 ca3,.slice B3 l3 cb3,.bool b4,.slice A4 k4 ca4,.slice B4 l4 cb4] 68 (0,0))∧W.heap[g1+1+1]?=some (.cells #[.int .i64 s5,.slice A5 k5 ca5,.slice B5 l5 cb5,.int .i64 s6,.slice A6 k6 ca6,.slice B6 l6 cb6] 85 (0,0))∧W.heap[g1+1+1+1]?=some (.cells #[.int .i64 s7,.slice A7 k7 ca7,.slice B7 l7 cb7,.int .i64 s8,.slice A8 k8 ca8,.slice B8 l8 cb8] 85 (0,0)))∧W.heap[g2]?=some (.cells #[.bool b9,.slice A9 k9 ca9,.slice B9 l9 cb9,.bool b10,.slice A10 k10 ca10,.slice B10 l10 cb10] 68 (0,0))∧W.heap[g3]?=some (.cells #[.int .i64 s11,.slice A11 k11 ca11,.slice B11 l11 cb11,.int .i64 s12,.slice A12 k12 ca12,.slice B12 l12 cb12] 85 (0,0)) from fun W h=>
  ⟨HR.out W (al E3.out h),(h.block _ (lt_of_block R9'.out)).trans R9'.out,(h.block _ (lt_of_block R11.out)).trans R11.out⟩)
 have HT0:=HT;clear R9' R11 HT;obtain⟨-,ra,rb⟩:=HR4.out W4 (ad _);obtain⟨x0,x1,x2,x3,x4,x5,-⟩:=ah ra;obtain⟨y0,y1,y2,y3,y4,y5,-⟩:=ah rb;have z0:(eo != eo)=false:=by simp
 clear ra rb;go_wp2_with fail;refine(alike_c 5000 (by decide) _ _ o1 o2 _ HO4.out HP4.out BO.out.1 BO.out.2 TB.out.2).mono ?_;rintro e w5 ⟨rfl,kk⟩;have K5:=ZZ kk;clear kk x0 x1 x2 x3 x4 x5 y0 y1 y2 y3 y4 y5 HO4 HP4
 rcases r with _|_
 ·go_wp2_with fail
  refine(awake_c _ (TB.out.mono K5.out)).mono ?_;rintro e wz ⟨rfl,kk⟩;go_wp2_with fail;go_ret;exact⟨rfl,al E4.out (al K5.out kk)⟩
 obtain⟨ra,rb,-⟩:=(HR4.out w5 K5.out).1;obtain⟨x0,x1,x2,x3,x4,x5,-⟩:=ah ra;obtain⟨y0,y1,y2,y3,y4,y5,-⟩:=ah rb;clear ra rb z0;have X5:=ZZ (al E3.out K5.out);obtain⟨ec,hec⟩:∃e,(divP qa qb qc qd).1=e:=⟨_,rfl⟩;obtain⟨d1,hd1⟩:∃e,(divP qa qb qc qd).2.1=e:=⟨_,rfl⟩;obtain⟨d2,hd2⟩:∃e,(divP qa qb qc qd).2.2=e:=⟨_,rfl⟩;have DV:=ZZ (div_any_c · · qa qb qc qd · · · BA.out BB.out BC.out BD.out);have DN:=ZZ (div_any_n · · qa qb qc qd · · · BA.out BB.out BC.out BD.out);have BDV:=ZZ (bq_div BA.out BB.out BC.out BD.out);rw [hec,hd1,hd2] at DV DN;rw [hd1,hd2] at BDV;clear hec hd1 hd2;go_wp2_with fail;refine(DV.out _ _ _ (HA.out.mono X5.out) (HB.out.mono X5.out)).mono ?_;rintro e w6 ⟨v,rfl,h,k⟩;obtain⟨b13,A13,k13,ca13,B13,l13,cb13,b14,A14,k14,ca14,B14,l14,cb14,rfl,-,-⟩:=h.form;obtain⟨-,ra,rb⟩:=HR4.out w6 (al K5.out k);have R13:=ZZ (show ((((((w6.setCell ⟨g2,0,none⟩ (.bool b13)).setCell ⟨g2,1,none⟩ (.slice A13 k13 ca13)).setCell ⟨g2,2,none⟩ (.slice B13 l13 cb13)).setCell ⟨g2,3,none⟩ (.bool b14)).setCell ⟨g2,4,none⟩ (.slice A14 k14 ca14)).setCell ⟨g2,5,none⟩ (.slice B14 l14 cb14)).heap[g2]?=some (.cells #[.bool b13,.slice A13 k13 ca13,.slice B13 l13 cb13,.bool b14,.slice A14 k14 ca14,.slice B14 l14 cb14] 68 (0,0)) from af ra (.bool b13) (.slice A13 k13 ca13) (.slice B13 l13 cb13) (.bool b14) (.slice A14 k14 ca14) (.slice B14 l14 cb14))
 have R11:=ZZ (show ((((((w6.setCell ⟨g2,0,none⟩ (.bool b13)).setCell ⟨g2,1,none⟩ (.slice A13 k13 ca13)).setCell ⟨g2,2,none⟩ (.slice B13 l13 cb13)).setCell ⟨g2,3,none⟩ (.bool b14)).setCell ⟨g2,4,none⟩ (.slice A14 k14 ca14)).setCell ⟨g2,5,none⟩ (.slice B14 l14 cb14)).heap[g3]?=some (.cells #[.int .i64 s11,.slice A11 k11 ca11,.slice B11 l11 cb11,.int .i64 s12,.slice A12 k12 ca12,.slice B12 l12 cb12] 85 (0,0)) from ag rb (Nat.ne_of_gt L2.out) (.bool b13) (.slice A13 k13 ca13) (.slice B13 l13 cb13) (.bool b14) (.slice A14 k14 ca14) (.slice B14 l14 cb14));have E6:=ZZ (show Ext W0 ((((((w6.setCell ⟨g2,0,none⟩ (.bool b13)).setCell ⟨g2,1,none⟩ (.slice A13 k13 ca13)).setCell ⟨g2,2,none⟩ (.slice B13 l13 cb13)).setCell ⟨g2,3,none⟩ (.bool b14)).setCell ⟨g2,4,none⟩ (.slice A14 k14 ca14)).setCell ⟨g2,5,none⟩ (.slice B14 l14 cb14)) from ae (al X5.out k) GE2.out (.bool b13) (.slice A13 k13 ca13) (.slice B13 l13 cb13) (.bool b14) (.slice A14 k14 ca14) (.slice B14 l14 cb14));have HDV:=ZZ (show Sp ((((((w6.setCell ⟨g2,0,none⟩ (.bool b13)).setCell ⟨g2,1,none⟩ (.slice A13 k13 ca13)).setCell ⟨g2,2,none⟩ (.slice B13 l13 cb13)).setCell ⟨g2,3,none⟩ (.bool b14)).setCell ⟨g2,4,none⟩ (.slice A14 k14 ca14)).setCell ⟨g2,5,none⟩ (.slice B14 l14 cb14)) (.agg #[.bool b13,.slice A13 k13 ca13,.slice B13 l13 cb13,.bool b14,.slice A14 k14 ca14,.slice B14 l14 cb14]) d1 d2 from h.put6 ra (.bool b13) (.slice A13 k13 ca13) (.slice B13 l13 cb13) (.bool b14) (.slice A14 k14 ca14) (.slice B14 l14 cb14))
 clear x0 x1 x2 x3 x4 x5 y0 y1 y2 y3 y4 y5;obtain⟨x0,x1,x2,x3,x4,x5,xf0,xf1,xf2,xf3,xf4,xf5⟩:=ah ra;clear h k ra rb DV
 go_upto_region 9 with (fail)
 clear x0 x1 x2 x3 x4 x5 xf0 xf1 xf2 xf3 xf4 xf5 HR4 K5 X5;generalize ((((((w6.setCell ⟨g2,0,none⟩ (.bool b13)).setCell ⟨g2,1,none⟩ (.slice A13 k13 ca13)).setCell ⟨g2,2,none⟩ (.slice B13 l13 cb13)).setCell ⟨g2,3,none⟩ (.bool b14)).setCell ⟨g2,4,none⟩ (.slice A14 k14 ca14)).setCell ⟨g2,5,none⟩ (.slice B14 l14 cb14))=W6 at *;have EW6:=ZZ (al E1.out E6.out);obtain⟨-,-,ra,rb⟩:=HR.out W6 E6.out;obtain⟨x0,x1,x2,x3,x4,x5,-⟩:=ah ra;obtain⟨y0,y1,y2,y3,y4,y5,-⟩:=ah rb;clear ra rb;go_wp2_with fail;refine(DN.out _ _ _ (HC.out.mono E6.out) (HD.out.mono E6.out)).mono ?_;rintro e w7 ⟨v,rfl,hall,k⟩;obtain⟨s15,A15,k15,ca15,B15,l15,cb15,s16,A16,k16,ca16,B16,l16,cb16,rfl⟩:=(hall w7 (fun _ _=>rfl)).form2;have ra:=(k.block _ (lt_of_block R13.out)).trans R13.out;have rb:=(k.block _ (lt_of_block R11.out)).trans R11.out;have hk:=put6_keep w7 g3 (.int .i64 s15) (.slice A15 k15 ca15) (.slice B15 l15 cb15) (.int .i64 s16) (.slice A16 k16 ca16) (.slice B16 l16 cb16)
 have R13':=ZZ (show ((((((w7.setCell ⟨g3,0,none⟩ (.int .i64 s15)).setCell ⟨g3,1,none⟩ (.slice A15 k15 ca15)).setCell ⟨g3,2,none⟩ (.slice B15 l15 cb15)).setCell ⟨g3,3,none⟩ (.int .i64 s16)).setCell ⟨g3,4,none⟩ (.slice A16 k16 ca16)).setCell ⟨g3,5,none⟩ (.slice B16 l16 cb16)).heap[g2]?=some (.cells #[.bool b13,.slice A13 k13 ca13,.slice B13 l13 cb13,.bool b14,.slice A14 k14 ca14,.slice B14 l14 cb14] 68 (0,0)) from ag ra (Nat.ne_of_lt L2.out) (.int .i64 s15) (.slice A15 k15 ca15) (.slice B15 l15 cb15) (.int .i64 s16) (.slice A16 k16 ca16) (.slice B16 l16 cb16));have R15:=ZZ (show ((((((w7.setCell ⟨g3,0,none⟩ (.int .i64 s15)).setCell ⟨g3,1,none⟩ (.slice A15 k15 ca15)).setCell ⟨g3,2,none⟩ (.slice B15 l15 cb15)).setCell ⟨g3,3,none⟩ (.int .i64 s16)).setCell ⟨g3,4,none⟩ (.slice A16 k16 ca16)).setCell ⟨g3,5,none⟩ (.slice B16 l16 cb16)).heap[g3]?=some (.cells #[.int .i64 s15,.slice A15 k15 ca15,.slice B15 l15 cb15,.int .i64 s16,.slice A16 k16 ca16,.slice B16 l16 cb16] 85 (0,0)) from af rb (.int .i64 s15) (.slice A15 k15 ca15) (.slice B15 l15 cb15) (.int .i64 s16) (.slice A16 k16 ca16) (.slice B16 l16 cb16))
 have E7:=ZZ (show Ext W0 ((((((w7.setCell ⟨g3,0,none⟩ (.int .i64 s15)).setCell ⟨g3,1,none⟩ (.slice A15 k15 ca15)).setCell ⟨g3,2,none⟩ (.slice B15 l15 cb15)).setCell ⟨g3,3,none⟩ (.int .i64 s16)).setCell ⟨g3,4,none⟩ (.slice A16 k16 ca16)).setCell ⟨g3,5,none⟩ (.slice B16 l16 cb16)) from ae (al E6.out k) GE3.out (.int .i64 s15) (.slice A15 k15 ca15) (.slice B15 l15 cb15) (.int .i64 s16) (.slice A16 k16 ca16) (.slice B16 l16 cb16));have HDV':=ZZ (show Sp ((((((w7.setCell ⟨g3,0,none⟩ (.int .i64 s15)).setCell ⟨g3,1,none⟩ (.slice A15 k15 ca15)).setCell ⟨g3,2,none⟩ (.slice B15 l15 cb15)).setCell ⟨g3,3,none⟩ (.int .i64 s16)).setCell ⟨g3,4,none⟩ (.slice A16 k16 ca16)).setCell ⟨g3,5,none⟩ (.slice B16 l16 cb16)) (.agg #[.bool b13,.slice A13 k13 ca13,.slice B13 l13 cb13,.bool b14,.slice A14 k14 ca14,.slice B14 l14 cb14]) d1 d2 from (HDV.out.mono k).keepU (noU rb) hk);have HDN:=ZZ (show SpR ((((((w7.setCell ⟨g3,0,none⟩ (.int .i64 s15)).setCell ⟨g3,1,none⟩ (.slice A15 k15 ca15)).setCell ⟨g3,2,none⟩ (.slice B15 l15 cb15)).setCell ⟨g3,3,none⟩ (.int .i64 s16)).setCell ⟨g3,4,none⟩ (.slice A16 k16 ca16)).setCell ⟨g3,5,none⟩ (.slice B16 l16 cb16)) (.agg #[.int .i64 s15,.slice A15 k15 ca15,.slice B15 l15 cb15,.int .i64 s16,.slice A16 k16 ca16,.slice B16 l16 cb16]) d1 d2 from hall _ (fun bl hb=>hk bl (Nat.ne_of_gt (Nat.lt_of_lt_of_le (lt_of_block R11.out) hb))));clear x0 x1 x2 x3 x4 x5 y0 y1 y2 y3 y4 y5;obtain⟨x0,x1,x2,x3,x4,x5,xf0,xf1,xf2,xf3,xf4,xf5⟩:=ah rb;clear hall k ra rb hk DN R13 R11 HDV
 go_upto_region 10 with (fail)
 clear x0 x1 x2 x3 x4 x5 xf0 xf1 xf2 xf3 xf4 xf5 E6 EW6;generalize ((((((w7.setCell ⟨g3,0,none⟩ (.int .i64 s15)).setCell ⟨g3,1,none⟩ (.slice A15 k15 ca15)).setCell ⟨g3,2,none⟩ (.slice B15 l15 cb15)).setCell ⟨g3,3,none⟩ (.int .i64 s16)).setCell ⟨g3,4,none⟩ (.slice A16 k16 ca16)).setCell ⟨g3,5,none⟩ (.slice B16 l16 cb16))=W7 at *;obtain⟨ra,rb,-⟩:=HR.out W7 E7.out;obtain⟨x0,x1,x2,x3,x4,x5,-⟩:=ah ra;obtain⟨y0,y1,y2,y3,y4,y5,-⟩:=ah rb;clear ra rb;obtain⟨sm,hsm⟩:∃b,(!decide (av (ar qa qb).2 (ar qc qd).2<aw (ar qa qb).1 (ar qc qd).1))=b:=⟨_,rfl⟩;have MV:=ZZ (meet_c 5000 (by decide) · · qa qb qc qd · · · BA.out BB.out BC.out BD.out);have MN:=ZZ (meet_sp 5000 (by decide) · · qa qb qc qd · · · BA.out BB.out BC.out BD.out);rw [hsm] at MV MN;clear hsm;go_wp2_with fail;refine(MV.out _ _ _ (HA.out.mono E7.out) (HB.out.mono E7.out)).mono ?_;rintro e w8 ⟨v,rfl,h,k⟩;obtain⟨b17,A17,k17,ca17,B17,l17,cb17,b18,A18,k18,ca18,B18,l18,cb18,rfl,-,-⟩:=h.form;have E8:=ZZ (show Ext W7 (w8.alloc (.cells #[.bool b17,.slice A17 k17 ca17,.slice B17 l17 cb17,.bool b18,.slice A18 k18 ca18,.slice B18 l18 cb18] 68)) from al k (ab _ _));have HM1:=ZZ (h.mono (ab w8 (.cells #[.bool b17,.slice A17 k17 ca17,.slice B17 l17 cb17,.bool b18,.slice A18 k18 ca18,.slice B18 l18 cb18] 68)));have R17:=ZZ (heap_alloc_new w8 (.cells #[.bool b17,.slice A17 k17 ca17,.slice B17 l17 cb17,.bool b18,.slice A18 k18 ca18,.slice B18 l18 cb18] 68));clear x0 x1 x2 x3 x4 x5 y0 y1 y2 y3 y4 y5 h k MV
 go_upto_region 11 with (fail)
 generalize w8.alloc (.cells #[.bool b17,.slice A17 k17 ca17,.slice B17 l17 cb17,.bool b18,.slice A18 k18 ca18,.slice B18 l18 cb18] _)=W8 at *;generalize w8.heap.size=g4 at *;obtain⟨-,-,ra,rb⟩:=HR.out W8 (al E7.out E8.out);obtain⟨x0,x1,x2,x3,x4,x5,-⟩:=ah ra;obtain⟨y0,y1,y2,y3,y4,y5,-⟩:=ah rb;clear ra rb;go_wp2_with fail;refine(MN.out _ _ _ (HC.out.mono (al E7.out E8.out)) (HD.out.mono (al E7.out E8.out))).mono ?_;rintro e w9 ⟨v,rfl,h,k⟩;obtain⟨s19,A19,k19,ca19,B19,l19,cb19,s20,A20,k20,ca20,B20,l20,cb20,rfl⟩:=h.form2;have hx:=al k (ab w9 (.cells #[.int .i64 s19,.slice A19 k19 ca19,.slice B19 l19 cb19,.int .i64 s20,.slice A20 k20 ca20,.slice B20 l20 cb20] 85));have E79:=ZZ (show Ext W7 (w9.alloc (.cells #[.int .i64 s19,.slice A19 k19 ca19,.slice B19 l19 cb19,.int .i64 s20,.slice A20 k20 ca20,.slice B20 l20 cb20] 85)) from al E8.out hx);have HM1':=ZZ (HM1.out.mono hx);have HM2:=ZZ (h.mono (ab w9 (.cells #[.int .i64 s19,.slice A19 k19 ca19,.slice B19 l19 cb19,.int .i64 s20,.slice A20 k20 ca20,.slice B20 l20 cb20] 85)));have R17':=ZZ ((hx.block _ (lt_of_block R17.out)).trans R17.out);have R19:=ZZ (heap_alloc_new w9 (.cells #[.int .i64 s19,.slice A19 k19 ca19,.slice B19 l19 cb19,.int .i64 s20,.slice A20 k20 ca20,.slice B20 l20 cb20] 85));clear x0 x1 x2 x3 x4 x5 y0 y1 y2 y3 y4 y5 h k hx MN R17 HM1 E8
 go_upto_region 12 with (fail)
 generalize w9.alloc (.cells #[.int .i64 s19,.slice A19 k19 ca19,.slice B19 l19 cb19,.int .i64 s20,.slice A20 k20 ca20,.slice B20 l20 cb20] _)=W9 at *;generalize w9.heap.size=g5 at *;have E9:=ZZ (al E7.out E79.out);have EX:=ZZ (al E1.out E9.out);have NA:=ZZ (HA.out.mono E9.out);have NB:=ZZ (HB.out.mono E9.out);have NC:=ZZ (HC.out.mono E9.out);have ND:=ZZ (HD.out.mono E9.out);have D1:=ZZ (HDV'.out.mono E79.out);have D2:=ZZ (HDN.out.mono E79.out)
 have HS:=ZZ (show ∀W:World,Ext W9 W→(W.heap[g1]?=some (.cells #[.bool b1,.slice A1 k1 ca1,.slice B1 l1 cb1,.bool b2,.slice A2 k2 ca2,.slice B2 l2 cb2] 68 (0,0))∧W.heap[g1+1]?=some (.cells #[.bool b3,.slice A3 k3 ca3,.slice B3 l3 cb3,.bool b4,.slice A4 k4 ca4,.slice B4 l4 cb4] 68 (0,0))∧W.heap[g1+1+1]?=some (.cells #[.int .i64 s5,.slice A5 k5 ca5,.slice B5 l5 cb5,.int .i64 s6,.slice A6 k6 ca6,.slice B6 l6 cb6] 85 (0,0))∧W.heap[g1+1+1+1]?=some (.cells #[.int .i64 s7,.slice A7 k7 ca7,.slice B7 l7 cb7,.int .i64 s8,.slice A8 k8 ca8,.slice B8 l8 cb8] 85 (0,0)))∧W.heap[g2]?=some (.cells #[.bool b13,.slice A13 k13 ca13,.slice B13 l13 cb13,.bool b14,.slice A14 k14 ca14,.slice B14 l14 cb14] 68 (0,0))∧W.heap[g3]?=some (.cells #[.int .i64 s15,.slice A15 k15 ca15,.slice B15 l15 cb15,.int .i64 s16,.slice A16 k16 ca16,.slice B16 l16 cb16] 85 (0,0))∧W.heap[g4]?=some (.cells #[.bool b17,.slice A17 k17 ca17,.slice B17 l17 cb17,.bool b18,.slice A18 k18 ca18,.slice B18 l18 cb18] 68 (0,0))∧W.heap[g5]?=some (.cells #[.int .i64 s19,.slice A19 k19 ca19,.slice B19 l19 cb19,.int .i64 s20,.slice A20 k20 ca20,.slice B20 l20 cb20] 85 (0,0)) from fun W h=>by
  have k:=al E79.out h;exact⟨HR.out W (al E9.out h),(k.block _ (lt_of_block R13'.out)).trans R13'.out,(k.block _ (lt_of_block R15.out)).trans R15.out,(h.block _ (lt_of_block R17'.out)).trans R17'.out,(h.block _ (lt_of_block R19.out)).trans R19.out⟩)
 have TB9:=ZZ (HT0.out.mono EX.out);clear HA HB HC HD HDV' HDN HR R13' R15 R17' R19 E1 E2 E3 E4 E7 E79 E9 TB GE2 GE3 L2;have BSA:=ZZ (bq_sort BA.out BB.out);have BSC:=ZZ (bq_sort BC.out BD.out);have BMT:=ZZ (bq_meet BSA.out BSC.out);generalize (meetQ (ar qa qb) (ar qc qd)).1=m1 at *;generalize (meetQ (ar qa qb) (ar qc qd)).2=m2 at *;have BML:=ZZ (bq_mul4 BA.out BB.out BC.out BD.out);have BPW:=ZZ (bq_pow4 BSA.out HN64.out);have z0:(ec != ec)=false:=by simp
 have z1:(sm != sm)=false:=by simp
 go_cut [131] (fun v wx=>v=.bool false∧Hid (Ext W9 wx))
 case first=>as_aux_lemma=>
  have hx1:=ZZ (ac W9);have hun:undef=.tuple #[]:=rfl;refine wp_region_noPanic ?_;refine wp_region_held_drew (S:=fun W=>Hid (Ext W9 W)) (by kernel_rfl) (hx1) (fun hHeld=>?_);refine take_w (i:=0) 82 (v:=?vv12_0) rfl rfl (by kernel_rfl) (by kernel_rfl) (by kernel_rfl) (fun _ _ _ h=>h) (Or.inl ⟨rfl,?hy12_0⟩) (by assumption) ?rr12_0
  case hy12_0=>(intro w hSw;(try dsimp only at hSw);go_simp;try with_reducible rfl)
  try simp only [Act.put,lyA,lyB,lyC]
  refine take_w (i:=1) 83 (v:=?vv12_1) rfl rfl (by kernel_rfl) (by kernel_rfl) (by kernel_rfl) (fun _ _ _ h=>h) (Or.inl ⟨rfl,?hy12_1⟩) (by assumption) ?rr12_1
  case hy12_1=>(intro w hSw;(try dsimp only at hSw);go_simp;try with_reducible rfl)
  try simp only [Act.put,lyA,lyB,lyC]
  refine take_w (i:=2) 84 (v:=?vv12_2) rfl rfl (by kernel_rfl) (by kernel_rfl) (by kernel_rfl) (fun _ _ _ h=>h) (Or.inl ⟨rfl,?hy12_2⟩) (by assumption) ?rr12_2
  case hy12_2=>(intro w hSw;(try dsimp only at hSw);go_simp;try with_reducible rfl)
  try simp only [Act.put,lyA,lyB,lyC]
  refine take_w (i:=3) 85 (v:=?vv12_3) rfl rfl (by kernel_rfl) (by kernel_rfl) (by kernel_rfl) (fun _ _ _ h=>h) (Or.inl ⟨rfl,?hy12_3⟩) (by assumption) ?rr12_3
  case hy12_3=>(intro w hSw;(try dsimp only at hSw);go_simp;try with_reducible rfl)
  try simp only [Act.put,lyA,lyB,lyC]
  refine take_w (i:=4) 86 (v:=?vv12_4) rfl rfl (by kernel_rfl) (by kernel_rfl) (by kernel_rfl) (fun _ _ _ h=>h) (Or.inl ⟨rfl,?hy12_4⟩) (by assumption) ?rr12_4
  case hy12_4=>(intro w hSw;(try dsimp only at hSw);obtain⟨u0,u1,u2,u3,u4,u5⟩:=c6_of (HS.out w hSw.out).2.1;go_simp;try with_reducible rfl)
  try simp only [Act.put,lyA,lyB,lyC]
  refine take_w (i:=5) 87 (v:=?vv12_5) rfl rfl (by kernel_rfl) (by kernel_rfl) (by kernel_rfl) (fun _ _ _ h=>h) (Or.inl ⟨rfl,?hy12_5⟩) (by assumption) ?rr12_5
  case hy12_5=>(intro w hSw;(try dsimp only at hSw);obtain⟨u0,u1,u2,u3,u4,u5⟩:=c6_of (HS.out w hSw.out).2.2.1;go_simp;try with_reducible rfl)
  try simp only [Act.put,lyA,lyB,lyC]
  refine call_w (i:=6) 88 rfl rfl (by kernel_rfl) (fun K hK=>?_)
  go_simp
  go_at_call 79
  refine(alike_c 700000 (by decide) _ _ d1 d2 _ (D1.out.mono hx1.out) (D2.out.mono hx1.out) (BDV.out.1.mono (by decide)) (BDV.out.2.mono (by decide)) (TB9.out.mono hx1.out).2).mono ?_;rintro e wx1 ⟨rfl,kk⟩;have e2:=ZZ kk;have hx2:=ZZ (al hx1.out kk);clear kk
  try go_wp2_with fail
  refine hK.out _ _ (hx2) (fun hHeld=>?_);clear hK K
  try simp only [Act.put,lyA,lyB,lyC]
  refine take_w (i:=7) 89 (v:=?vv12_7) rfl rfl (by kernel_rfl) (by kernel_rfl) (by kernel_rfl) (fun _ _ _ h=>h) (Or.inl ⟨rfl,?hy12_7⟩) (by assumption) ?rr12_7
  case hy12_7=>(intro w hSw;(try dsimp only at hSw);go_simp;try with_reducible rfl)
  try simp only [Act.put,lyA,lyB,lyC]
  refine take_w (i:=8) 90 (v:=?vv12_8) rfl rfl (by kernel_rfl) (by kernel_rfl) (by kernel_rfl) (fun _ _ _ h=>h) (Or.inl ⟨rfl,?hy12_8⟩) (by assumption) ?rr12_8
  case hy12_8=>(intro w hSw;(try dsimp only at hSw);go_simp;try with_reducible rfl)
  try simp only [Act.put,lyA,lyB,lyC]
  refine take_w (i:=9) 91 (v:=?vv12_9) rfl rfl (by kernel_rfl) (by kernel_rfl) (by kernel_rfl) (fun _ _ _ h=>h) (Or.inl ⟨rfl,?hy12_9⟩) (by assumption) ?rr12_9
  case hy12_9=>(intro w hSw;(try dsimp only at hSw);go_simp;try with_reducible rfl)
  try simp only [Act.put,lyA,lyB,lyC]
  refine take_w (i:=10) 92 (v:=?vv12_10) rfl rfl (by kernel_rfl) (by kernel_rfl) (by kernel_rfl) (fun _ _ _ h=>h) (Or.inl ⟨rfl,?hy12_10⟩) (by assumption) ?rr12_10
  case hy12_10=>(intro w hSw;(try dsimp only at hSw);go_simp;try with_reducible rfl)
  try simp only [Act.put,lyA,lyB,lyC]
  refine take_w (i:=11) 93 (v:=?vv12_11) rfl rfl (by kernel_rfl) (by kernel_rfl) (by kernel_rfl) (fun _ _ _ h=>h) (Or.inl ⟨rfl,?hy12_11⟩) (by assumption) ?rr12_11
  case hy12_11=>(intro w hSw;(try dsimp only at hSw);go_simp;try with_reducible rfl)
  try simp only [Act.put,lyA,lyB,lyC]
  refine take_w (i:=12) 94 (v:=?vv12_12) rfl rfl (by kernel_rfl) (by kernel_rfl) (by kernel_rfl) (fun _ _ _ h=>h) (Or.inl ⟨rfl,?hy12_12⟩) (by assumption) ?rr12_12
  case hy12_12=>(intro w hSw;(try dsimp only at hSw);go_simp;try with_reducible rfl)
  try simp only [Act.put,lyA,lyB,lyC]
  refine take_w (i:=13) 95 (v:=?vv12_13) rfl rfl (by kernel_rfl) (by kernel_rfl) (by kernel_rfl) (fun _ _ _ h=>h) (Or.inl ⟨rfl,?hy12_13⟩) (by assumption) ?rr12_13
  case hy12_13=>(intro w hSw;(try dsimp only at hSw);go_simp;try with_reducible rfl)
  try simp only [Act.put,lyA,lyB,lyC]
  refine take_w (i:=14) 96 (v:=?vv12_14) rfl rfl (by kernel_rfl) (by kernel_rfl) (by kernel_rfl) (fun _ _ _ h=>h) (Or.inl ⟨rfl,?hy12_14⟩) (by assumption) ?rr12_14
  case hy12_14=>(intro w hSw;(try dsimp only at hSw);go_simp;try with_reducible rfl)
  try simp only [Act.put,lyA,lyB,lyC]
  refine take_w (i:=15) 97 (v:=?vv12_15) rfl rfl (by kernel_rfl) (by kernel_rfl) (by kernel_rfl) (fun _ _ _ h=>h) (Or.inl ⟨rfl,?hy12_15⟩) (by assumption) ?rr12_15
  case hy12_15=>(intro w hSw;(try dsimp only at hSw);obtain⟨u0,u1,u2,u3,u4,u5⟩:=c6_of (HS.out w hSw.out).2.2.2.1;go_simp;try with_reducible rfl)
  try simp only [Act.put,lyA,lyB,lyC]
  refine take_w (i:=16) 98 (v:=?vv12_16) rfl rfl (by kernel_rfl) (by kernel_rfl) (by kernel_rfl) (fun _ _ _ h=>h) (Or.inl ⟨rfl,?hy12_16⟩) (by assumption) ?rr12_16
  case hy12_16=>(intro w hSw;(try dsimp only at hSw);obtain⟨u0,u1,u2,u3,u4,u5⟩:=c6_of (HS.out w hSw.out).2.2.2.2;go_simp;try with_reducible rfl)
  try simp only [Act.put,lyA,lyB,lyC]
  refine call_w (i:=17) 99 rfl rfl (by kernel_rfl) (fun K hK=>?_)
  go_simp
  go_at_call 79
  refine(alike_c 700000 (by decide) _ _ m1 m2 _ (HM1'.out.mono hx2.out) (HM2.out.mono hx2.out) (BMT.out.1.mono (by decide)) (BMT.out.2.mono (by decide)) (TB9.out.mono hx2.out).2).mono ?_;rintro e wx2 ⟨rfl,kk⟩;have e3:=ZZ kk;have hx3:=ZZ (al hx2.out kk);clear kk
  try go_wp2_with fail
  refine hK.out _ _ (hx3) (fun hHeld=>?_);clear hK K
  try simp only [Act.put,lyA,lyB,lyC]
  refine take_w (i:=18) 100 (v:=?vv12_18) rfl rfl (by kernel_rfl) (by kernel_rfl) (by kernel_rfl) (fun _ _ _ h=>h) (Or.inl ⟨rfl,?hy12_18⟩) (by assumption) ?rr12_18
  case hy12_18=>(intro w hSw;(try dsimp only at hSw);go_simp;try with_reducible rfl)
  try simp only [Act.put,lyA,lyB,lyC]
  refine take_w (i:=19) 101 (v:=?vv12_19) rfl rfl (by kernel_rfl) (by kernel_rfl) (by kernel_rfl) (fun _ _ _ h=>h) (Or.inl ⟨rfl,?hy12_19⟩) (by assumption) ?rr12_19
  case hy12_19=>(intro w hSw;(try dsimp only at hSw);go_simp;try with_reducible rfl)
  try simp only [Act.put,lyA,lyB,lyC]
  refine take_w (i:=20) 102 (v:=?vv12_20) rfl rfl (by kernel_rfl) (by kernel_rfl) (by kernel_rfl) (fun _ _ _ h=>h) (Or.inl ⟨rfl,?hy12_20⟩) (by assumption) ?rr12_20
  case hy12_20=>(intro w hSw;(try dsimp only at hSw);go_simp;try with_reducible rfl)
  try simp only [Act.put,lyA,lyB,lyC]
  refine take_w (i:=21) 103 (v:=?vv12_21) rfl rfl (by kernel_rfl) (by kernel_rfl) (by kernel_rfl) (fun _ _ _ h=>h) (Or.inl ⟨rfl,?hy12_21⟩) (by assumption) ?rr12_21
  case hy12_21=>(intro w hSw;(try dsimp only at hSw);obtain⟨u0,u1,u2,u3,u4,u5⟩:=c6_of (HS.out w hSw.out).1.1;go_simp;try with_reducible rfl)
  try simp only [Act.put,lyA,lyB,lyC]
  refine take_w (i:=22) 104 (v:=?vv12_22) rfl rfl (by kernel_rfl) (by kernel_rfl) (by kernel_rfl) (fun _ _ _ h=>h) (Or.inl ⟨rfl,?hy12_22⟩) (by assumption) ?rr12_22
  case hy12_22=>(intro w hSw;(try dsimp only at hSw);obtain⟨u0,u1,u2,u3,u4,u5⟩:=c6_of (HS.out w hSw.out).1.2.1;go_simp;try with_reducible rfl)
  try simp only [Act.put,lyA,lyB,lyC]
  refine take_w (i:=24) 106 (v:=?vv12_24) rfl rfl (by kernel_rfl) (by kernel_rfl) (by kernel_rfl) (fun _ _ _ h=>h) (Or.inl ⟨rfl,?hy12_24⟩) (by assumption) ?rr12_24
  case hy12_24=>(intro w hSw;(try dsimp only at hSw);obtain⟨u0,u1,u2,u3,u4,u5⟩:=c6_of (HS.out w hSw.out).1.2.2.1;go_simp;try with_reducible rfl)
  try simp only [Act.put,lyA,lyB,lyC]
  refine take_w (i:=25) 107 (v:=?vv12_25) rfl rfl (by kernel_rfl) (by kernel_rfl) (by kernel_rfl) (fun _ _ _ h=>h) (Or.inl ⟨rfl,?hy12_25⟩) (by assumption) ?rr12_25
  case hy12_25=>(intro w hSw;(try dsimp only at hSw);obtain⟨u0,u1,u2,u3,u4,u5⟩:=c6_of (HS.out w hSw.out).1.2.2.2;go_simp;try with_reducible rfl)
  try simp only [Act.put,lyA,lyB,lyC]
  refine call_w (i:=23) 105 rfl rfl (by kernel_rfl) (fun K hK=>?_)
  go_simp
  go_at_call 71
  refine(add_s 5000 (by decide) _ _ qa qb qc qd _ (NA.out.mono hx3.out) (NB.out.mono hx3.out) BA.out BB.out BC.out BD.out).mono ?_;rintro e wx3 ⟨vv,rfl,h9,kk⟩;obtain⟨b31,A31,k31,ca31,B31,l31,cb31,b32,A32,k32,ca32,B32,l32,cb32,rfl,-,-⟩:=h9.form;have P1:=ZZ h9;clear h9;have e4:=ZZ kk;have hx4:=ZZ (al hx3.out kk);clear kk
  try go_wp2_with fail
  refine hK.out _ _ (hx4) (fun hHeld=>?_);clear hK K
  try simp only [Act.put,lyA,lyB,lyC]
  refine call_w (i:=26) 108 rfl rfl (by kernel_rfl) (fun K hK=>?_)
  go_simp
  go_at_call 82
  refine(add_sp 5000 (by decide) _ _ qa qb qc qd _ (NC.out.mono hx4.out) (ND.out.mono hx4.out) BA.out BB.out BC.out BD.out).mono ?_;rintro e wx4 ⟨vv,rfl,h9,kk⟩;obtain⟨s33,A33,k33,ca33,B33,l33,cb33,s34,A34,k34,ca34,B34,l34,cb34,rfl⟩:=h9.form2;have Q1:=ZZ h9;clear h9;have e5:=ZZ kk;have hx5:=ZZ (al hx4.out kk);clear kk
  try go_wp2_with fail
  refine hK.out _ _ (hx5) (fun hHeld=>?_);clear hK K
  try simp only [Act.put,lyA,lyB,lyC]
  refine call_w (i:=27) 109 rfl rfl (by kernel_rfl) (fun K hK=>?_)
  go_simp
  go_at_call 79
  refine(alike_c 700000 (by decide) _ _ ((ar qa qb).1+(ar qc qd).1) ((ar qa qb).2+(ar qc qd).2) _ (P1.out.mono e5.out) Q1.out ((BSA.out.1.add BSC.out.1).mono (by decide)) ((BSA.out.2.add BSC.out.2).mono (by decide)) (TB9.out.mono hx5.out).2).mono ?_;rintro e wx5 ⟨rfl,kk⟩;have e6:=ZZ kk;have hx6:=ZZ (al hx5.out kk);clear kk
  try go_wp2_with fail
  refine hK.out _ _ (hx6) (fun hHeld=>?_);clear hK K
  try simp only [Act.put,lyA,lyB,lyC]
  refine take_w (i:=28) 110 (v:=?vv12_28) rfl rfl (by kernel_rfl) (by kernel_rfl) (by kernel_rfl) (fun _ _ _ h=>h) (Or.inl ⟨rfl,?hy12_28⟩) (by assumption) ?rr12_28
  case hy12_28=>(intro w hSw;(try dsimp only at hSw);go_simp;try with_reducible rfl)
  try simp only [Act.put,lyA,lyB,lyC]
  refine take_w (i:=29) 111 (v:=?vv12_29) rfl rfl (by kernel_rfl) (by kernel_rfl) (by kernel_rfl) (fun _ _ _ h=>h) (Or.inl ⟨rfl,?hy12_29⟩) (by assumption) ?rr12_29
  case hy12_29=>(intro w hSw;(try dsimp only at hSw);go_simp;try with_reducible rfl)
  try simp only [Act.put,lyA,lyB,lyC]
  refine take_w (i:=30) 112 (v:=?vv12_30) rfl rfl (by kernel_rfl) (by kernel_rfl) (by kernel_rfl) (fun _ _ _ h=>h) (Or.inl ⟨rfl,?hy12_30⟩) (by assumption) ?rr12_30
  case hy12_30=>(intro w hSw;(try dsimp only at hSw);go_simp;try with_reducible rfl)
  try simp only [Act.put,lyA,lyB,lyC]
  refine take_w (i:=31) 113 (v:=?vv12_31) rfl rfl (by kernel_rfl) (by kernel_rfl) (by kernel_rfl) (fun _ _ _ h=>h) (Or.inl ⟨rfl,?hy12_31⟩) (by assumption) ?rr12_31
  case hy12_31=>(intro w hSw;(try dsimp only at hSw);obtain⟨u0,u1,u2,u3,u4,u5⟩:=c6_of (HS.out w hSw.out).1.1;go_simp;try with_reducible rfl)
  try simp only [Act.put,lyA,lyB,lyC]
  refine take_w (i:=32) 114 (v:=?vv12_32) rfl rfl (by kernel_rfl) (by kernel_rfl) (by kernel_rfl) (fun _ _ _ h=>h) (Or.inl ⟨rfl,?hy12_32⟩) (by assumption) ?rr12_32
  case hy12_32=>(intro w hSw;(try dsimp only at hSw);obtain⟨u0,u1,u2,u3,u4,u5⟩:=c6_of (HS.out w hSw.out).1.2.1;go_simp;try with_reducible rfl)
  try simp only [Act.put,lyA,lyB,lyC]
  refine take_w (i:=34) 116 (v:=?vv12_34) rfl rfl (by kernel_rfl) (by kernel_rfl) (by kernel_rfl) (fun _ _ _ h=>h) (Or.inl ⟨rfl,?hy12_34⟩) (by assumption) ?rr12_34
  case hy12_34=>(intro w hSw;(try dsimp only at hSw);obtain⟨u0,u1,u2,u3,u4,u5⟩:=c6_of (HS.out w hSw.out).1.2.2.1;go_simp;try with_reducible rfl)
  try simp only [Act.put,lyA,lyB,lyC]
  refine take_w (i:=35) 117 (v:=?vv12_35) rfl rfl (by kernel_rfl) (by kernel_rfl) (by kernel_rfl) (fun _ _ _ h=>h) (Or.inl ⟨rfl,?hy12_35⟩) (by assumption) ?rr12_35
  case hy12_35=>(intro w hSw;(try dsimp only at hSw);obtain⟨u0,u1,u2,u3,u4,u5⟩:=c6_of (HS.out w hSw.out).1.2.2.2;go_simp;try with_reducible rfl)
  try simp only [Act.put,lyA,lyB,lyC]
  refine call_w (i:=33) 115 rfl rfl (by kernel_rfl) (fun K hK=>?_)
  go_simp
  go_at_call 72
  refine(sub_s 5000 (by decide) _ _ qa qb qc qd _ (NA.out.mono hx6.out) (NB.out.mono hx6.out) BA.out BB.out BC.out BD.out).mono ?_;rintro e wx6 ⟨vv,rfl,h9,kk⟩;rw [(sub_eq qc qd).1,(sub_eq qc qd).2] at h9;obtain⟨b35,A35,k35,ca35,B35,l35,cb35,b36,A36,k36,ca36,B36,l36,cb36,rfl,-,-⟩:=h9.form;have P2:=ZZ h9;clear h9;have e7:=ZZ kk;have hx7:=ZZ (al hx6.out kk);clear kk
  try go_wp2_with fail
  refine hK.out _ _ (hx7) (fun hHeld=>?_);clear hK K
  try simp only [Act.put,lyA,lyB,lyC]
  refine call_w (i:=36) 118 rfl rfl (by kernel_rfl) (fun K hK=>?_)
  go_simp
  go_at_call 83
  refine(sub_sp 5000 (by decide) _ _ qa qb qc qd _ (NC.out.mono hx7.out) (ND.out.mono hx7.out) BA.out BB.out BC.out BD.out).mono ?_;rintro e wx7 ⟨vv,rfl,h9,kk⟩;obtain⟨s37,A37,k37,ca37,B37,l37,cb37,s38,A38,k38,ca38,B38,l38,cb38,rfl⟩:=h9.form2;have Q2:=ZZ h9;clear h9;have e8:=ZZ kk;have hx8:=ZZ (al hx7.out kk);clear kk
  try go_wp2_with fail
  refine hK.out _ _ (hx8) (fun hHeld=>?_);clear hK K
  try simp only [Act.put,lyA,lyB,lyC]
  refine call_w (i:=37) 119 rfl rfl (by kernel_rfl) (fun K hK=>?_)
  go_simp
  go_at_call 79
  refine(alike_c 700000 (by decide) _ _ ((ar qa qb).1+(-(ar qc qd).2)) ((ar qa qb).2+(-(ar qc qd).1)) _ (P2.out.mono e8.out) Q2.out ((BSA.out.1.add BSC.out.2.neg).mono (by decide)) ((BSA.out.2.add BSC.out.1.neg).mono (by decide)) (TB9.out.mono hx8.out).2).mono ?_;rintro e wx8 ⟨rfl,kk⟩;have e9:=ZZ kk;have hx9:=ZZ (al hx8.out kk);clear kk
  try go_wp2_with fail
  refine hK.out _ _ (hx9) (fun hHeld=>?_);clear hK K
  try simp only [Act.put,lyA,lyB,lyC]
  refine take_w (i:=38) 120 (v:=?vv12_38) rfl rfl (by kernel_rfl) (by kernel_rfl) (by kernel_rfl) (fun _ _ _ h=>h) (Or.inl ⟨rfl,?hy12_38⟩) (by assumption) ?rr12_38
  case hy12_38=>(intro w hSw;(try dsimp only at hSw);go_simp;try with_reducible rfl)
  try simp only [Act.put,lyA,lyB,lyC]
  refine take_w (i:=39) 121 (v:=?vv12_39) rfl rfl (by kernel_rfl) (by kernel_rfl) (by kernel_rfl) (fun _ _ _ h=>h) (Or.inl ⟨rfl,?hy12_39⟩) (by assumption) ?rr12_39
  case hy12_39=>(intro w hSw;(try dsimp only at hSw);go_simp;try with_reducible rfl)
  try simp only [Act.put,lyA,lyB,lyC]
  refine take_w (i:=40) 122 (v:=?vv12_40) rfl rfl (by kernel_rfl) (by kernel_rfl) (by kernel_rfl) (fun _ _ _ h=>h) (Or.inl ⟨rfl,?hy12_40⟩) (by assumption) ?rr12_40
  case hy12_40=>(intro w hSw;(try dsimp only at hSw);go_simp;try with_reducible rfl)
  try simp only [Act.put,lyA,lyB,lyC]
  refine take_w (i:=41) 123 (v:=?vv12_41) rfl rfl (by kernel_rfl) (by kernel_rfl) (by kernel_rfl) (fun _ _ _ h=>h) (Or.inl ⟨rfl,?hy12_41⟩) (by assumption) ?rr12_41
  case hy12_41=>(intro w hSw;(try dsimp only at hSw);obtain⟨u0,u1,u2,u3,u4,u5⟩:=c6_of (HS.out w hSw.out).1.1;go_simp;try with_reducible rfl)
  try simp only [Act.put,lyA,lyB,lyC]
  refine take_w (i:=42) 124 (v:=?vv12_42) rfl rfl (by kernel_rfl) (by kernel_rfl) (by kernel_rfl) (fun _ _ _ h=>h) (Or.inl ⟨rfl,?hy12_42⟩) (by assumption) ?rr12_42
  case hy12_42=>(intro w hSw;(try dsimp only at hSw);obtain⟨u0,u1,u2,u3,u4,u5⟩:=c6_of (HS.out w hSw.out).1.2.1;go_simp;try with_reducible rfl)
  try simp only [Act.put,lyA,lyB,lyC]
  refine take_w (i:=44) 126 (v:=?vv12_44) rfl rfl (by kernel_rfl) (by kernel_rfl) (by kernel_rfl) (fun _ _ _ h=>h) (Or.inl ⟨rfl,?hy12_44⟩) (by assumption) ?rr12_44
  case hy12_44=>(intro w hSw;(try dsimp only at hSw);obtain⟨u0,u1,u2,u3,u4,u5⟩:=c6_of (HS.out w hSw.out).1.2.2.1;go_simp;try with_reducible rfl)
  try simp only [Act.put,lyA,lyB,lyC]
  refine take_w (i:=45) 127 (v:=?vv12_45) rfl rfl (by kernel_rfl) (by kernel_rfl) (by kernel_rfl) (fun _ _ _ h=>h) (Or.inl ⟨rfl,?hy12_45⟩) (by assumption) ?rr12_45
  case hy12_45=>(intro w hSw;(try dsimp only at hSw);obtain⟨u0,u1,u2,u3,u4,u5⟩:=c6_of (HS.out w hSw.out).1.2.2.2;go_simp;try with_reducible rfl)
  try simp only [Act.put,lyA,lyB,lyC]
  refine call_w (i:=43) 125 rfl rfl (by kernel_rfl) (fun K hK=>?_)
  go_simp
  go_at_call 67
  refine(mulS_c 5000 (by decide) _ _ qa qb qc qd _ (NA.out.mono hx9.out) (NB.out.mono hx9.out) BA.out BB.out BC.out BD.out).mono ?_;rintro e wx9 ⟨vv,rfl,h9,kk⟩;obtain⟨b39,A39,k39,ca39,B39,l39,cb39,b40,A40,k40,ca40,B40,l40,cb40,rfl,-,-⟩:=h9.form;have P3:=ZZ h9;clear h9;have e10:=ZZ kk;have hx10:=ZZ (al hx9.out kk);clear kk
  try go_wp2_with fail
  refine hK.out _ _ (hx10) (fun hHeld=>?_);clear hK K
  try simp only [Act.put,lyA,lyB,lyC]
  refine call_w (i:=46) 128 rfl rfl (by kernel_rfl) (fun K hK=>?_)
  go_simp
  go_at_call 84
  refine(mul_sp 5000 (by decide) _ _ qa qb qc qd _ (NC.out.mono hx10.out) (ND.out.mono hx10.out) BA.out BB.out BC.out BD.out).mono ?_;rintro e wx10 ⟨vv,rfl,h9,kk⟩;have h9:=h9 _ (fun _ _=>rfl);obtain⟨s41,A41,k41,ca41,B41,l41,cb41,s42,A42,k42,ca42,B42,l42,cb42,rfl⟩:=h9.form2;have Q3:=ZZ h9;clear h9;have e11:=ZZ kk;have hx11:=ZZ (al hx10.out kk);clear kk
  try go_wp2_with fail
  refine hK.out _ _ (hx11) (fun hHeld=>?_);clear hK K
  try simp only [Act.put,lyA,lyB,lyC]
  refine call_w (i:=47) 129 rfl rfl (by kernel_rfl) (fun K hK=>?_)
  go_simp
  go_at_call 79
  refine(alike_c 700000 (by decide) _ _ (mulS qa qb qc qd).1 (mulS qa qb qc qd).2 _ (P3.out.mono e11.out) Q3.out (BML.out.1.mono (by decide)) (BML.out.2.mono (by decide)) (TB9.out.mono hx11.out).2).mono ?_;rintro e wx11 ⟨rfl,kk⟩;have e12:=ZZ kk;have hx12:=ZZ (al hx11.out kk);clear kk
  try go_wp2_with fail
  refine hK.out _ _ (hx12) (fun hHeld=>?_);clear hK K
  try simp only [Act.put,lyA,lyB,lyC]
  refine take_w (i:=48) 130 (v:=?vv12_48) rfl rfl (by kernel_rfl) (by kernel_rfl) (by kernel_rfl) (fun _ _ _ h=>h) (Or.inl ⟨rfl,?hy12_48⟩) (by assumption) ?rr12_48
  case hy12_48=>(intro w hSw;(try dsimp only at hSw);go_simp;try with_reducible rfl)
  try simp only [Act.put,lyA,lyB,lyC]
  refine take_w (i:=49) 131 (v:=?vv12_49) rfl rfl (by kernel_rfl) (by kernel_rfl) (by kernel_rfl) (fun _ _ _ h=>h) (Or.inl ⟨rfl,?hy12_49⟩) (by assumption) ?rr12_49
  case hy12_49=>(intro w hSw;(try dsimp only at hSw);go_simp;try with_reducible rfl)
  try simp only [Act.put,lyA,lyB,lyC]
  refine wpAnyH_done (by kernel_rfl) ?_ _;refine NoPanic.normal ?_;go_wp2_with fail;go_meet;exact⟨by first|rfl|simp,hx12⟩
 case rest=>
  obtain⟨rfl,HE12⟩:=hcut;rename World=>WB;have HS:=ZZ (fun W (h:Ext WB W)=>HS.out W (al HE12.out h));have NA:=ZZ (NA.out.mono HE12.out);have NB:=ZZ (NB.out.mono HE12.out);have NC:=ZZ (NC.out.mono HE12.out);have ND:=ZZ (ND.out.mono HE12.out);have TB9:=ZZ (TB9.out.mono HE12.out);have EX:=ZZ (al EX.out HE12.out);clear z0 z1
  go_upto_region 14 with (fail)
  have BJN:=ZZ (bq_join BSA.out BSC.out)
  go_cut [174] (fun v wx=>v=.bool false∧Hid (Ext WB wx))
  case first=>as_aux_lemma=>
   have hx1:=ZZ (ac WB);have hun:undef=.tuple #[]:=rfl;refine wp_region_noPanic ?_;refine wp_region_held_drew (S:=fun W=>Hid (Ext WB W)) (by kernel_rfl) (hx1) (fun hHeld=>?_);refine take_w (i:=0) 132 (v:=?vv14_0) rfl rfl (by kernel_rfl) (by kernel_rfl) (by kernel_rfl) (fun _ _ _ h=>h) (Or.inl ⟨rfl,?hy14_0⟩) (by assumption) ?rr14_0
   case hy14_0=>(intro w hSw;(try dsimp only at hSw);obtain⟨u0,u1,u2,u3,u4,u5⟩:=c6_of (HS.out w hSw.out).1.1;go_simp;try with_reducible rfl)
   try simp only [Act.put,lyA,lyB,lyC]
   refine take_w (i:=2) 134 (v:=?vv14_2) rfl rfl (by kernel_rfl) (by kernel_rfl) (by kernel_rfl) (fun _ _ _ h=>h) (Or.inl ⟨rfl,?hy14_2⟩) (by assumption) ?rr14_2
   case hy14_2=>(intro w hSw;(try dsimp only at hSw);obtain⟨u0,u1,u2,u3,u4,u5⟩:=c6_of (HS.out w hSw.out).1.2.2.1;go_simp;try with_reducible rfl)
   try simp only [Act.put,lyA,lyB,lyC]
   refine call_w (i:=1) 133 rfl rfl (by kernel_rfl) (fun K hK=>?_)
   go_simp
   go_at_call 85
   refine(negS_c 5000 (by decide) _ qa qb _ (NA.out.mono hx1.out) BA.out BB.out).mono ?_;rintro e wx1 ⟨vv,rfl,h9,kk⟩;rw [(neg_eq qa qb).1,(neg_eq qa qb).2] at h9;obtain⟨b31,A31,k31,ca31,B31,l31,cb31,b32,A32,k32,ca32,B32,l32,cb32,rfl,-,-⟩:=h9.form;have P1:=ZZ h9;clear h9;have e2:=ZZ kk;have hx2:=ZZ (al hx1.out kk);clear kk
   try go_wp2_with fail
   refine hK.out _ _ (hx2) (fun hHeld=>?_);clear hK K
   try simp only [Act.put,lyA,lyB,lyC]
   refine call_w (i:=3) 135 rfl rfl (by kernel_rfl) (fun K hK=>?_)
   go_simp
   go_at_call 86
   refine(negS_n 5000 (by decide) _ qa qb _ (NC.out.mono hx2.out) BA.out BB.out).mono ?_;rintro e wx2 ⟨vv,rfl,h9,kk⟩;obtain⟨s33,A33,k33,ca33,B33,l33,cb33,s34,A34,k34,ca34,B34,l34,cb34,rfl⟩:=h9.form2;have Q1:=ZZ h9;clear h9;have e3:=ZZ kk;have hx3:=ZZ (al hx2.out kk);clear kk
   try go_wp2_with fail
   refine hK.out _ _ (hx3) (fun hHeld=>?_);clear hK K
   try simp only [Act.put,lyA,lyB,lyC]
   refine call_w (i:=4) 136 rfl rfl (by kernel_rfl) (fun K hK=>?_)
   go_simp
   go_at_call 79
   refine(alike_c 700000 (by decide) _ _ (-(ar qa qb).2) (-(ar qa qb).1) _ (P1.out.mono e3.out) Q1.out (BSA.out.2.neg.mono (by decide)) (BSA.out.1.neg.mono (by decide)) (TB9.out.mono hx3.out).2).mono ?_;rintro e wx3 ⟨rfl,kk⟩;have e4:=ZZ kk;have hx4:=ZZ (al hx3.out kk);clear kk
   try go_wp2_with fail
   refine hK.out _ _ (hx4) (fun hHeld=>?_);clear hK K
   try simp only [Act.put,lyA,lyB,lyC]
   refine take_w (i:=5) 137 (v:=?vv14_5) rfl rfl (by kernel_rfl) (by kernel_rfl) (by kernel_rfl) (fun _ _ _ h=>h) (Or.inl ⟨rfl,?hy14_5⟩) (by assumption) ?rr14_5
   case hy14_5=>(intro w hSw;(try dsimp only at hSw);go_simp;try with_reducible rfl)
   try simp only [Act.put,lyA,lyB,lyC]
   refine take_w (i:=6) 138 (v:=?vv14_6) rfl rfl (by kernel_rfl) (by kernel_rfl) (by kernel_rfl) (fun _ _ _ h=>h) (Or.inl ⟨rfl,?hy14_6⟩) (by assumption) ?rr14_6
   case hy14_6=>(intro w hSw;(try dsimp only at hSw);go_simp;try with_reducible rfl)
   try simp only [Act.put,lyA,lyB,lyC]
   refine take_w (i:=7) 139 (v:=?vv14_7) rfl rfl (by kernel_rfl) (by kernel_rfl) (by kernel_rfl) (fun _ _ _ h=>h) (Or.inl ⟨rfl,?hy14_7⟩) (by assumption) ?rr14_7
   case hy14_7=>(intro w hSw;(try dsimp only at hSw);obtain⟨u0,u1,u2,u3,u4,u5⟩:=c6_of (HS.out w hSw.out).1.1;go_simp;try with_reducible rfl)
   try simp only [Act.put,lyA,lyB,lyC]
   refine take_w (i:=8) 140 (v:=?vv14_8) rfl rfl (by kernel_rfl) (by kernel_rfl) (by kernel_rfl) (fun _ _ _ h=>h) (Or.inl ⟨rfl,?hy14_8⟩) (by assumption) ?rr14_8
   case hy14_8=>(intro w hSw;(try dsimp only at hSw);go_simp;try with_reducible rfl)
   try simp only [Act.put,lyA,lyB,lyC]
   refine take_w (i:=10) 142 (v:=?vv14_10) rfl rfl (by kernel_rfl) (by kernel_rfl) (by kernel_rfl) (fun _ _ _ h=>h) (Or.inl ⟨rfl,?hy14_10⟩) (by assumption) ?rr14_10
   case hy14_10=>(intro w hSw;(try dsimp only at hSw);obtain⟨u0,u1,u2,u3,u4,u5⟩:=c6_of (HS.out w hSw.out).1.2.2.1;go_simp;try with_reducible rfl)
   try simp only [Act.put,lyA,lyB,lyC]
   refine take_w (i:=11) 143 (v:=?vv14_11) rfl rfl (by kernel_rfl) (by kernel_rfl) (by kernel_rfl) (fun _ _ _ h=>h) (Or.inl ⟨rfl,?hy14_11⟩) (by assumption) ?rr14_11
   case hy14_11=>(intro w hSw;(try dsimp only at hSw);go_simp;try with_reducible rfl)
   try simp only [Act.put,lyA,lyB,lyC]
   refine call_w (i:=9) 141 rfl rfl (by kernel_rfl) (fun K hK=>?_)
   go_simp
   go_at_call 75
   refine(pow_s 5000 (by decide) _ qa qb n N HN.out _ (NA.out.mono hx4.out) BA.out BB.out).mono ?_;rintro e wx4 ⟨vv,rfl,h9,kk⟩;obtain⟨b35,A35,k35,ca35,B35,l35,cb35,b36,A36,k36,ca36,B36,l36,cb36,rfl,-,-⟩:=h9.form;have P2:=ZZ h9;clear h9;have e5:=ZZ kk;have hx5:=ZZ (al hx4.out kk);clear kk
   try go_wp2_with fail
   refine hK.out _ _ (hx5) (fun hHeld=>?_);clear hK K
   try simp only [Act.put,lyA,lyB,lyC]
   refine call_w (i:=12) 144 rfl rfl (by kernel_rfl) (fun K hK=>?_)
   go_simp
   go_at_call 87
   refine(pow_sp 5000 (by decide) _ qa qb n N HN.out _ (NC.out.mono hx5.out) BA.out BB.out).mono ?_;rintro e wx5 ⟨vv,rfl,h9,kk⟩;obtain⟨s37,A37,k37,ca37,B37,l37,cb37,s38,A38,k38,ca38,B38,l38,cb38,rfl⟩:=h9.form2;have Q2:=ZZ h9;clear h9;have e6:=ZZ kk;have hx6:=ZZ (al hx5.out kk);clear kk
   try go_wp2_with fail
   refine hK.out _ _ (hx6) (fun hHeld=>?_);clear hK K
   try simp only [Act.put,lyA,lyB,lyC]
   refine call_w (i:=13) 145 rfl rfl (by kernel_rfl) (fun K hK=>?_)
   go_simp
   go_at_call 79
   refine(alike_c 700000 (by decide) _ _ (powS (ar qa qb) N).1 (powS (ar qa qb) N).2 _ (P2.out.mono e6.out) Q2.out (BPW.out.1.mono (by decide)) (BPW.out.2.mono (by decide)) (TB9.out.mono hx6.out).2).mono ?_;rintro e wx6 ⟨rfl,kk⟩;have e7:=ZZ kk;have hx7:=ZZ (al hx6.out kk);clear kk
   try go_wp2_with fail
   refine hK.out _ _ (hx7) (fun hHeld=>?_);clear hK K
   try simp only [Act.put,lyA,lyB,lyC]
   refine take_w (i:=14) 146 (v:=?vv14_14) rfl rfl (by kernel_rfl) (by kernel_rfl) (by kernel_rfl) (fun _ _ _ h=>h) (Or.inl ⟨rfl,?hy14_14⟩) (by assumption) ?rr14_14
   case hy14_14=>(intro w hSw;(try dsimp only at hSw);go_simp;try with_reducible rfl)
   try simp only [Act.put,lyA,lyB,lyC]
   refine take_w (i:=15) 147 (v:=?vv14_15) rfl rfl (by kernel_rfl) (by kernel_rfl) (by kernel_rfl) (fun _ _ _ h=>h) (Or.inl ⟨rfl,?hy14_15⟩) (by assumption) ?rr14_15
   case hy14_15=>(intro w hSw;(try dsimp only at hSw);go_simp;try with_reducible rfl)
   try simp only [Act.put,lyA,lyB,lyC]
   refine take_w (i:=16) 148 (v:=?vv14_16) rfl rfl (by kernel_rfl) (by kernel_rfl) (by kernel_rfl) (fun _ _ _ h=>h) (Or.inl ⟨rfl,?hy14_16⟩) (by assumption) ?rr14_16
   case hy14_16=>(intro w hSw;(try dsimp only at hSw);go_simp;try with_reducible rfl)
   try simp only [Act.put,lyA,lyB,lyC]
   refine take_w (i:=17) 149 (v:=?vv14_17) rfl rfl (by kernel_rfl) (by kernel_rfl) (by kernel_rfl) (fun _ _ _ h=>h) (Or.inl ⟨rfl,?hy14_17⟩) (by assumption) ?rr14_17
   case hy14_17=>(intro w hSw;(try dsimp only at hSw);obtain⟨u0,u1,u2,u3,u4,u5⟩:=c6_of (HS.out w hSw.out).1.1;go_simp;try with_reducible rfl)
   try simp only [Act.put,lyA,lyB,lyC]
   refine take_w (i:=18) 150 (v:=?vv14_18) rfl rfl (by kernel_rfl) (by kernel_rfl) (by kernel_rfl) (fun _ _ _ h=>h) (Or.inl ⟨rfl,?hy14_18⟩) (by assumption) ?rr14_18
   case hy14_18=>(intro w hSw;(try dsimp only at hSw);obtain⟨u0,u1,u2,u3,u4,u5⟩:=c6_of (HS.out w hSw.out).1.2.1;go_simp;try with_reducible rfl)
   try simp only [Act.put,lyA,lyB,lyC]
   refine take_w (i:=20) 152 (v:=?vv14_20) rfl rfl (by kernel_rfl) (by kernel_rfl) (by kernel_rfl) (fun _ _ _ h=>h) (Or.inl ⟨rfl,?hy14_20⟩) (by assumption) ?rr14_20
   case hy14_20=>(intro w hSw;(try dsimp only at hSw);obtain⟨u0,u1,u2,u3,u4,u5⟩:=c6_of (HS.out w hSw.out).1.2.2.1;go_simp;try with_reducible rfl)
   try simp only [Act.put,lyA,lyB,lyC]
   refine take_w (i:=21) 153 (v:=?vv14_21) rfl rfl (by kernel_rfl) (by kernel_rfl) (by kernel_rfl) (fun _ _ _ h=>h) (Or.inl ⟨rfl,?hy14_21⟩) (by assumption) ?rr14_21
   case hy14_21=>(intro w hSw;(try dsimp only at hSw);obtain⟨u0,u1,u2,u3,u4,u5⟩:=c6_of (HS.out w hSw.out).1.2.2.2;go_simp;try with_reducible rfl)
   try simp only [Act.put,lyA,lyB,lyC]
   refine call_w (i:=19) 151 rfl rfl (by kernel_rfl) (fun K hK=>?_)
   go_simp
   go_at_call 88
   refine(join_c 5000 (by decide) _ _ qa qb qc qd _ (NA.out.mono hx7.out) (NB.out.mono hx7.out) BA.out BB.out BC.out BD.out).mono ?_;rintro e wx7 ⟨vv,rfl,h9,kk⟩;obtain⟨b39,A39,k39,ca39,B39,l39,cb39,b40,A40,k40,ca40,B40,l40,cb40,rfl,-,-⟩:=h9.form;have P3:=ZZ h9;clear h9;have e8:=ZZ kk;have hx8:=ZZ (al hx7.out kk);clear kk
   try go_wp2_with fail
   refine hK.out _ _ (hx8) (fun hHeld=>?_);clear hK K
   try simp only [Act.put,lyA,lyB,lyC]
   refine call_w (i:=22) 154 rfl rfl (by kernel_rfl) (fun K hK=>?_)
   go_simp
   go_at_call 89
   refine(join_sp 5000 (by decide) _ _ qa qb qc qd _ (NC.out.mono hx8.out) (ND.out.mono hx8.out) BA.out BB.out BC.out BD.out).mono ?_;rintro e wx8 ⟨vv,rfl,h9,kk⟩;have h9:=id h9;unfold joinQ at h9
   dsimp only at h9
   obtain⟨s41,A41,k41,ca41,B41,l41,cb41,s42,A42,k42,ca42,B42,l42,cb42,rfl⟩:=h9.form2;have Q3:=ZZ h9;clear h9;have e9:=ZZ kk;have hx9:=ZZ (al hx8.out kk);clear kk
   try go_wp2_with fail
   refine hK.out _ _ (hx9) (fun hHeld=>?_);clear hK K
   try simp only [Act.put,lyA,lyB,lyC]
   refine call_w (i:=23) 155 rfl rfl (by kernel_rfl) (fun K hK=>?_)
   go_simp
   go_at_call 79
   refine(alike_c 700000 (by decide) _ _ (av (ar qa qb).1 (ar qc qd).1) (aw (ar qa qb).2 (ar qc qd).2) _ (P3.out.mono e9.out) Q3.out (BJN.out.1.mono (by decide)) (BJN.out.2.mono (by decide)) (TB9.out.mono hx9.out).2).mono ?_;rintro e wx9 ⟨rfl,kk⟩;have e10:=ZZ kk;have hx10:=ZZ (al hx9.out kk);clear kk
   try go_wp2_with fail
   refine hK.out _ _ (hx10) (fun hHeld=>?_);clear hK K
   try simp only [Act.put,lyA,lyB,lyC]
   refine take_w (i:=24) 156 (v:=?vv14_24) rfl rfl (by kernel_rfl) (by kernel_rfl) (by kernel_rfl) (fun _ _ _ h=>h) (Or.inl ⟨rfl,?hy14_24⟩) (by assumption) ?rr14_24
   case hy14_24=>(intro w hSw;(try dsimp only at hSw);go_simp;try with_reducible rfl)
   try simp only [Act.put,lyA,lyB,lyC]
   refine take_w (i:=25) 157 (v:=?vv14_25) rfl rfl (by kernel_rfl) (by kernel_rfl) (by kernel_rfl) (fun _ _ _ h=>h) (Or.inl ⟨rfl,?hy14_25⟩) (by assumption) ?rr14_25
   case hy14_25=>(intro w hSw;(try dsimp only at hSw);go_simp;try with_reducible rfl)
   try simp only [Act.put,lyA,lyB,lyC]
   refine take_w (i:=26) 158 (v:=?vv14_26) rfl rfl (by kernel_rfl) (by kernel_rfl) (by kernel_rfl) (fun _ _ _ h=>h) (Or.inl ⟨rfl,?hy14_26⟩) (by assumption) ?rr14_26
   case hy14_26=>(intro w hSw;(try dsimp only at hSw);go_simp;try with_reducible rfl)
   try simp only [Act.put,lyA,lyB,lyC]
   refine take_w (i:=27) 159 (v:=?vv14_27) rfl rfl (by kernel_rfl) (by kernel_rfl) (by kernel_rfl) (fun _ _ _ h=>h) (Or.inl ⟨rfl,?hy14_27⟩) (by assumption) ?rr14_27
   case hy14_27=>(intro w hSw;(try dsimp only at hSw);obtain⟨u0,u1,u2,u3,u4,u5⟩:=c6_of (HS.out w hSw.out).1.1;go_simp;try with_reducible rfl)
   try simp only [Act.put,lyA,lyB,lyC]
   refine take_w (i:=28) 160 (v:=?vv14_28) rfl rfl (by kernel_rfl) (by kernel_rfl) (by kernel_rfl) (fun _ _ _ h=>h) (Or.inl ⟨rfl,?hy14_28⟩) (by assumption) ?rr14_28
   case hy14_28=>(intro w hSw;(try dsimp only at hSw);go_simp;try with_reducible rfl)
   try simp only [Act.put,lyA,lyB,lyC]
   refine take_w (i:=30) 162 (v:=?vv14_30) rfl rfl (by kernel_rfl) (by kernel_rfl) (by kernel_rfl) (fun _ _ _ h=>h) (Or.inl ⟨rfl,?hy14_30⟩) (by assumption) ?rr14_30
   case hy14_30=>(intro w hSw;(try dsimp only at hSw);obtain⟨u0,u1,u2,u3,u4,u5⟩:=c6_of (HS.out w hSw.out).1.2.2.1;go_simp;try with_reducible rfl)
   try simp only [Act.put,lyA,lyB,lyC]
   refine take_w (i:=31) 163 (v:=?vv14_31) rfl rfl (by kernel_rfl) (by kernel_rfl) (by kernel_rfl) (fun _ _ _ h=>h) (Or.inl ⟨rfl,?hy14_31⟩) (by assumption) ?rr14_31
   case hy14_31=>(intro w hSw;(try dsimp only at hSw);go_simp;try with_reducible rfl)
   try simp only [Act.put,lyA,lyB,lyC]
   refine call_w (i:=29) 161 rfl rfl (by kernel_rfl) (fun K hK=>?_)
   go_simp
   go_at_call 73
   refine(out_c 5000 (by decide) _ qa qb bits _ (NA.out.mono hx10.out) BA.out BB.out).mono ?_;rintro e wx10 ⟨vv,rfl,h9,kk⟩;obtain⟨b43,A43,k43,ca43,B43,l43,cb43,b44,A44,k44,ca44,B44,l44,cb44,rfl,-,-⟩:=h9.form;have P4:=ZZ h9;clear h9;have e11:=ZZ kk;have hx11:=ZZ (al hx10.out kk);clear kk
   try go_wp2_with fail
   refine hK.out _ _ (hx11) (fun hHeld=>?_);clear hK K
   try simp only [Act.put,lyA,lyB,lyC]
   refine call_w (i:=32) 164 rfl rfl (by kernel_rfl) (fun K hK=>?_)
   go_simp
   go_at_call 90
   refine(out_n 5000 (by decide) _ qa qb bits _ (NC.out.mono hx11.out) BA.out BB.out).mono ?_;rintro e wx11 ⟨vv,rfl,h9,kk⟩;obtain⟨s45,A45,k45,ca45,B45,l45,cb45,s46,A46,k46,ca46,B46,l46,cb46,rfl⟩:=h9.form2;have Q4:=ZZ h9;clear h9;have e12:=ZZ kk;have hx12:=ZZ (al hx11.out kk);clear kk
   try go_wp2_with fail
   refine hK.out _ _ (hx12) (fun hHeld=>?_);clear hK K
   try simp only [Act.put,lyA,lyB,lyC]
   refine call_w (i:=33) 165 rfl rfl (by kernel_rfl) (fun K hK=>?_)
   go_simp
   go_at_call 79
   refine(alike_c 700000 (by decide) _ _ (ax (ar qa qb).1 bits (decide ((ar qa qb).1.num<0))) (ax (ar qa qb).2 bits (!decide ((ar qa qb).2.num<0))) _ (P4.out.mono e12.out) Q4.out ((Bq.round BSA.out.1 (by decide)).mono (by decide)) ((Bq.round BSA.out.2 (by decide)).mono (by decide)) (TB9.out.mono hx12.out).2).mono ?_;rintro e wx12 ⟨rfl,kk⟩;have e13:=ZZ kk;have hx13:=ZZ (al hx12.out kk);clear kk
   try go_wp2_with fail
   refine hK.out _ _ (hx13) (fun hHeld=>?_);clear hK K
   try simp only [Act.put,lyA,lyB,lyC]
   refine take_w (i:=34) 166 (v:=?vv14_34) rfl rfl (by kernel_rfl) (by kernel_rfl) (by kernel_rfl) (fun _ _ _ h=>h) (Or.inl ⟨rfl,?hy14_34⟩) (by assumption) ?rr14_34
   case hy14_34=>(intro w hSw;(try dsimp only at hSw);go_simp;try with_reducible rfl)
   try simp only [Act.put,lyA,lyB,lyC]
   refine take_w (i:=35) 167 (v:=?vv14_35) rfl rfl (by kernel_rfl) (by kernel_rfl) (by kernel_rfl) (fun _ _ _ h=>h) (Or.inl ⟨rfl,?hy14_35⟩) (by assumption) ?rr14_35
   case hy14_35=>(intro w hSw;(try dsimp only at hSw);go_simp;try with_reducible rfl)
   try simp only [Act.put,lyA,lyB,lyC]
   refine take_w (i:=36) 168 (v:=?vv14_36) rfl rfl (by kernel_rfl) (by kernel_rfl) (by kernel_rfl) (fun _ _ _ h=>h) (Or.inl ⟨rfl,?hy14_36⟩) (by assumption) ?rr14_36
   case hy14_36=>(intro w hSw;(try dsimp only at hSw);go_simp;try with_reducible rfl)
   try simp only [Act.put,lyA,lyB,lyC]
   refine take_w (i:=37) 169 (v:=?vv14_37) rfl rfl (by kernel_rfl) (by kernel_rfl) (by kernel_rfl) (fun _ _ _ h=>h) (Or.inl ⟨rfl,?hy14_37⟩) (by assumption) ?rr14_37
   case hy14_37=>(intro w hSw;(try dsimp only at hSw);obtain⟨u0,u1,u2,u3,u4,u5⟩:=c6_of (HS.out w hSw.out).1.1;go_simp;try with_reducible rfl)
   try simp only [Act.put,lyA,lyB,lyC]
   refine take_w (i:=39) 171 (v:=?vv14_39) rfl rfl (by kernel_rfl) (by kernel_rfl) (by kernel_rfl) (fun _ _ _ h=>h) (Or.inl ⟨rfl,?hy14_39⟩) (by assumption) ?rr14_39
   case hy14_39=>(intro w hSw;(try dsimp only at hSw);obtain⟨u0,u1,u2,u3,u4,u5⟩:=c6_of (HS.out w hSw.out).1.2.2.1;go_simp;try with_reducible rfl)
   try simp only [Act.put,lyA,lyB,lyC]
   refine call_w (i:=38) 170 rfl rfl (by kernel_rfl) (fun K hK=>?_)
   go_simp
   go_at_call 91
   refine(textS_c 5000 (by decide) _ qa qb _ (NA.out.mono hx13.out) BA.out BB.out (TB9.out.mono hx13.out).2).mono ?_;rintro e wx13 ⟨rfl,kk⟩;have e14:=ZZ kk;have hx14:=ZZ (al hx13.out kk);clear kk
   try go_wp2_with fail
   refine hK.out _ _ (hx14) (fun hHeld=>?_);clear hK K
   try simp only [Act.put,lyA,lyB,lyC]
   refine call_w (i:=40) 172 rfl rfl (by kernel_rfl) (fun K hK=>?_)
   go_simp
   go_at_call 92
   refine(textS_n 5000 (by decide) _ qa qb _ (NC.out.mono hx14.out) BA.out BB.out).mono ?_;rintro e wx14 ⟨rfl,kk⟩;have e15:=ZZ kk;have hx15:=ZZ (al hx14.out kk);clear kk
   try go_wp2_with fail
   refine hK.out _ _ (hx15) (fun hHeld=>?_);clear hK K
   try simp only [Act.put,lyA,lyB,lyC]
   refine take_w (i:=41) 173 (v:=?vv14_41) rfl rfl (by kernel_rfl) (by kernel_rfl) (by kernel_rfl) (fun _ _ _ h=>h) (Or.inl ⟨rfl,?hy14_41⟩) (by assumption) ?rr14_41
   case hy14_41=>(intro w hSw;(try dsimp only at hSw);go_simp;try with_reducible rfl)
   try simp only [Act.put,lyA,lyB,lyC]
   refine take_w (i:=42) 174 (v:=?vv14_42) rfl rfl (by kernel_rfl) (by kernel_rfl) (by kernel_rfl) (fun _ _ _ h=>h) (Or.inl ⟨rfl,?hy14_42⟩) (by assumption) ?rr14_42
   case hy14_42=>(intro w hSw;(try dsimp only at hSw);go_simp;try with_reducible rfl)
   try simp only [Act.put,lyA,lyB,lyC]
   refine wpAnyH_done (by kernel_rfl) ?_ _;refine NoPanic.normal ?_;go_wp2_with fail;go_meet;exact⟨by first|rfl|simp,hx15⟩
  case rest=>
   obtain⟨rfl,HE14⟩:=hcut;rename World=>WC;have HS:=ZZ (fun W (h:Ext WC W)=>HS.out W (al HE14.out h));have NA:=ZZ (NA.out.mono HE14.out);have NB:=ZZ (NB.out.mono HE14.out);have NC:=ZZ (NC.out.mono HE14.out);have ND:=ZZ (ND.out.mono HE14.out);have TB9:=ZZ (TB9.out.mono HE14.out);have EX:=ZZ (al EX.out HE14.out)
   go_upto_region 16 with (fail)
   obtain⟨hb1,hhb⟩:∃b,hasB qa qb qc=b:=⟨_,rfl⟩;have HHB:=ZZ hhb;clear hhb;have z2:(hb1 == hb1)=true:=by simp
   have NB1:=(sp_ends NB.out).1;have ND1:=ZZ (ak.1 ND.out).1;have NA2:=(sp_ends NA.out).2;have NC2:=ZZ (ak.1 NC.out).2;have hx1:=ZZ (ac WC);have hun:undef=.tuple #[]:=rfl;refine wp_region_noPanic ?_;refine wp_region_held_drew (S:=fun W=>Hid (Ext WC W)) (by kernel_rfl) (hx1) (fun hHeld=>?_);refine take_w (i:=0) 175 (v:=?vv16_0) rfl rfl (by kernel_rfl) (by kernel_rfl) (by kernel_rfl) (fun _ _ _ h=>h) (Or.inl ⟨rfl,?hy16_0⟩) (by assumption) ?rr16_0
   case hy16_0=>(intro w hSw;(try dsimp only at hSw);obtain⟨u0,u1,u2,u3,u4,u5⟩:=c6_of (HS.out w hSw.out).1.1;go_simp;try with_reducible rfl)
   try simp only [Act.put,lyA,lyB,lyC]
   refine take_w (i:=1) 176 (v:=?vv16_1) rfl rfl (by kernel_rfl) (by kernel_rfl) (by kernel_rfl) (fun _ _ _ h=>h) (Or.inl ⟨rfl,?hy16_1⟩) (by assumption) ?rr16_1
   case hy16_1=>(intro w hSw;(try dsimp only at hSw);go_simp;try with_reducible rfl)
   try simp only [Act.put,lyA,lyB,lyC]
   refine take_w (i:=2) 177 (v:=?vv16_2) rfl rfl (by kernel_rfl) (by kernel_rfl) (by kernel_rfl) (fun _ _ _ h=>h) (Or.inl ⟨rfl,?hy16_2⟩) (by assumption) ?rr16_2
   case hy16_2=>(intro w hSw;(try dsimp only at hSw);obtain⟨u0,u1,u2,u3,u4,u5⟩:=c6_of (HS.out w hSw.out).1.2.1;go_simp;try with_reducible rfl)
   try simp only [Act.put,lyA,lyB,lyC]
   refine take_w (i:=4) 179 (v:=?vv16_4) rfl rfl (by kernel_rfl) (by kernel_rfl) (by kernel_rfl) (fun _ _ _ h=>h) (Or.inl ⟨rfl,?hy16_4⟩) (by assumption) ?rr16_4
   case hy16_4=>(intro w hSw;(try dsimp only at hSw);obtain⟨u0,u1,u2,u3,u4,u5⟩:=c6_of (HS.out w hSw.out).1.2.2.1;go_simp;try with_reducible rfl)
   try simp only [Act.put,lyA,lyB,lyC]
   refine take_w (i:=5) 180 (v:=?vv16_5) rfl rfl (by kernel_rfl) (by kernel_rfl) (by kernel_rfl) (fun _ _ _ h=>h) (Or.inl ⟨rfl,?hy16_5⟩) (by assumption) ?rr16_5
   case hy16_5=>(intro w hSw;(try dsimp only at hSw);go_simp;try with_reducible rfl)
   try simp only [Act.put,lyA,lyB,lyC]
   refine take_w (i:=6) 181 (v:=?vv16_6) rfl rfl (by kernel_rfl) (by kernel_rfl) (by kernel_rfl) (fun _ _ _ h=>h) (Or.inl ⟨rfl,?hy16_6⟩) (by assumption) ?rr16_6
   case hy16_6=>(intro w hSw;(try dsimp only at hSw);obtain⟨u0,u1,u2,u3,u4,u5⟩:=c6_of (HS.out w hSw.out).1.2.2.2;go_simp;try with_reducible rfl)
   try simp only [Act.put,lyA,lyB,lyC]
   refine call_w (i:=3) 178 rfl rfl (by kernel_rfl) (fun K hK=>?_)
   go_simp
   go_at_call 70
   refine(has_c 5000 (by decide) _ _ qa qb qc hb1 HHB.out _ (NA.out.mono hx1.out) (NB1.out.mono hx1.out) BA.out BB.out BC.out).mono ?_;rintro e wx1 ⟨rfl,kk⟩;have e2:=ZZ kk;have hx2:=ZZ (al hx1.out kk);clear kk
   try go_wp2_with fail
   refine hK.out _ _ (hx2) (fun hHeld=>?_);clear hK K
   try simp only [Act.put,lyA,lyB,lyC]
   refine call_w (i:=7) 182 rfl rfl (by kernel_rfl) (fun K hK=>?_)
   go_simp
   go_at_call 93
   refine(has_n 5000 (by decide) _ _ qa qb qc hb1 HHB.out _ (NC.out.mono hx2.out) (ND1.out.mono hx2.out) BA.out BB.out BC.out).mono ?_;rintro e wx2 ⟨rfl,kk⟩;have e3:=ZZ kk;have hx3:=ZZ (al hx2.out kk);clear kk
   try go_wp2_with fail
   refine hK.out _ _ (hx3) (fun hHeld=>?_);clear hK K
   try simp only [Act.put,lyA,lyB,lyC]
   refine take_w (i:=8) 183 (v:=?vv16_8) rfl rfl (by kernel_rfl) (by kernel_rfl) (by kernel_rfl) (fun _ _ _ h=>h) (Or.inl ⟨rfl,?hy16_8⟩) (by assumption) ?rr16_8
   case hy16_8=>(intro w hSw;(try dsimp only at hSw);go_simp;try with_reducible rfl)
   try simp only [Act.put,lyA,lyB,lyC]
   refine take_w (i:=9) 184 (v:=?vv16_9) rfl rfl (by kernel_rfl) (by kernel_rfl) (by kernel_rfl) (fun _ _ _ h=>h) (Or.inl ⟨rfl,?hy16_9⟩) (by assumption) ?rr16_9
   case hy16_9=>(intro w hSw;(try dsimp only at hSw);go_simp;try with_reducible rfl)
   try simp only [Act.put,lyA,lyB,lyC]
   refine take_w (i:=10) 185 (v:=?vv16_10) rfl rfl (by kernel_rfl) (by kernel_rfl) (by kernel_rfl) (fun _ _ _ h=>h) (Or.inl ⟨rfl,?hy16_10⟩) (by assumption) ?rr16_10
   case hy16_10=>(intro w hSw;(try dsimp only at hSw);obtain⟨u0,u1,u2,u3,u4,u5⟩:=c6_of (HS.out w hSw.out).1.1;go_simp;try with_reducible rfl)
   try simp only [Act.put,lyA,lyB,lyC]
   refine take_w (i:=12) 187 (v:=?vv16_12) rfl rfl (by kernel_rfl) (by kernel_rfl) (by kernel_rfl) (fun _ _ _ h=>h) (Or.inl ⟨rfl,?hy16_12⟩) (by assumption) ?rr16_12
   case hy16_12=>(intro w hSw;(try dsimp only at hSw);obtain⟨u0,u1,u2,u3,u4,u5⟩:=c6_of (HS.out w hSw.out).1.2.2.1;go_simp;try with_reducible rfl)
   try simp only [Act.put,lyA,lyB,lyC]
   refine call_w (i:=11) 186 rfl rfl (by kernel_rfl) (fun K hK=>?_)
   go_simp
   go_at_call 48
   refine(midS_c 5000 (by decide) _ qa qb _ (NA.out.mono hx3.out) BA.out BB.out).mono ?_;rintro e wx3 ⟨vv,rfl,h9,kk⟩;obtain⟨b31,A31,k31,ca31,B31,l31,cb31,rfl⟩:=h9.form2;have P1:=ZZ h9;clear h9;have e4:=ZZ kk;have hx4:=ZZ (al hx3.out kk);clear kk
   try go_wp2_with fail
   refine hK.out _ _ (hx4) (fun hHeld=>?_);clear hK K
   try simp only [Act.put,lyA,lyB,lyC]
   refine call_w (i:=13) 188 rfl rfl (by kernel_rfl) (fun K hK=>?_)
   go_simp
   go_at_call 94
   refine(mid_n 5000 (by decide) _ qa qb _ (NC.out.mono hx4.out) BA.out BB.out).mono ?_;rintro e wx4 ⟨vv,rfl,h9,kk⟩;obtain⟨s33,A33,k33,ca33,B33,l33,cb33,rfl,-⟩:=h9.form;have Q1:=ZZ h9;clear h9;have e5:=ZZ kk;have hx5:=ZZ (al hx4.out kk);clear kk
   try go_wp2_with fail
   refine hK.out _ _ (hx5) (fun hHeld=>?_);clear hK K
   try simp only [Act.put,lyA,lyB,lyC]
   refine call_w (i:=14) 189 rfl rfl (by kernel_rfl) (fun K hK=>?_)
   go_simp
   go_at_call 18
   refine(same_c 700000 (by decide) _ _ (shQ (qa+qb) (-1)) _ (P1.out.mono e5.out) Q1.out ((BA.out.add BB.out).sh.mono (by decide)) (TB9.out.mono hx5.out).2).mono ?_;rintro e wx5 ⟨rfl,kk⟩;have e6:=ZZ kk;have hx6:=ZZ (al hx5.out kk);clear kk
   try go_wp2_with fail
   refine hK.out _ _ (hx6) (fun hHeld=>?_);clear hK K
   try simp only [Act.put,lyA,lyB,lyC]
   refine take_w (i:=15) 190 (v:=?vv16_15) rfl rfl (by kernel_rfl) (by kernel_rfl) (by kernel_rfl) (fun _ _ _ h=>h) (Or.inl ⟨rfl,?hy16_15⟩) (by assumption) ?rr16_15
   case hy16_15=>(intro w hSw;(try dsimp only at hSw);go_simp;try with_reducible rfl)
   try simp only [Act.put,lyA,lyB,lyC]
   refine take_w (i:=16) 191 (v:=?vv16_16) rfl rfl (by kernel_rfl) (by kernel_rfl) (by kernel_rfl) (fun _ _ _ h=>h) (Or.inl ⟨rfl,?hy16_16⟩) (by assumption) ?rr16_16
   case hy16_16=>(intro w hSw;(try dsimp only at hSw);go_simp;try with_reducible rfl)
   try simp only [Act.put,lyA,lyB,lyC]
   refine take_w (i:=17) 192 (v:=?vv16_17) rfl rfl (by kernel_rfl) (by kernel_rfl) (by kernel_rfl) (fun _ _ _ h=>h) (Or.inl ⟨rfl,?hy16_17⟩) (by assumption) ?rr16_17
   case hy16_17=>(intro w hSw;(try dsimp only at hSw);obtain⟨u0,u1,u2,u3,u4,u5⟩:=c6_of (HS.out w hSw.out).1.1;go_simp;try with_reducible rfl)
   try simp only [Act.put,lyA,lyB,lyC]
   refine take_w (i:=19) 194 (v:=?vv16_19) rfl rfl (by kernel_rfl) (by kernel_rfl) (by kernel_rfl) (fun _ _ _ h=>h) (Or.inl ⟨rfl,?hy16_19⟩) (by assumption) ?rr16_19
   case hy16_19=>(intro w hSw;(try dsimp only at hSw);obtain⟨u0,u1,u2,u3,u4,u5⟩:=c6_of (HS.out w hSw.out).1.2.2.1;go_simp;try with_reducible rfl)
   try simp only [Act.put,lyA,lyB,lyC]
   refine call_w (i:=18) 193 rfl rfl (by kernel_rfl) (fun K hK=>?_)
   go_simp
   go_at_call 95
   refine(widthS_c 5000 (by decide) _ qa qb _ (NA.out.mono hx6.out) BA.out BB.out).mono ?_;rintro e wx6 ⟨vv,rfl,h9,kk⟩;obtain⟨b35,A35,k35,ca35,B35,l35,cb35,rfl⟩:=h9.form2;have P2:=ZZ h9;clear h9;have e7:=ZZ kk;have hx7:=ZZ (al hx6.out kk);clear kk
   try go_wp2_with fail
   refine hK.out _ _ (hx7) (fun hHeld=>?_);clear hK K
   try simp only [Act.put,lyA,lyB,lyC]
   refine call_w (i:=20) 195 rfl rfl (by kernel_rfl) (fun K hK=>?_)
   go_simp
   go_at_call 96
   refine(width_n 5000 (by decide) _ qa qb _ (NC.out.mono hx7.out) BA.out BB.out).mono ?_;rintro e wx7 ⟨vv,rfl,h9,kk⟩;obtain⟨s37,A37,k37,ca37,B37,l37,cb37,rfl,-⟩:=h9.form;have Q2:=ZZ h9;clear h9;have e8:=ZZ kk;have hx8:=ZZ (al hx7.out kk);clear kk
   try go_wp2_with fail
   refine hK.out _ _ (hx8) (fun hHeld=>?_);clear hK K
   try simp only [Act.put,lyA,lyB,lyC]
   refine call_w (i:=21) 196 rfl rfl (by kernel_rfl) (fun K hK=>?_)
   go_simp
   go_at_call 18
   refine(same_c 700000 (by decide) _ _ (absQ (qb - qa)) _ (P2.out.mono e8.out) Q2.out ((BB.out.sub BA.out).abs.mono (by decide)) (TB9.out.mono hx8.out).2).mono ?_;rintro e wx8 ⟨rfl,kk⟩;have e9:=ZZ kk;have hx9:=ZZ (al hx8.out kk);clear kk
   try go_wp2_with fail
   refine hK.out _ _ (hx9) (fun hHeld=>?_);clear hK K
   try simp only [Act.put,lyA,lyB,lyC]
   refine take_w (i:=22) 197 (v:=?vv16_22) rfl rfl (by kernel_rfl) (by kernel_rfl) (by kernel_rfl) (fun _ _ _ h=>h) (Or.inl ⟨rfl,?hy16_22⟩) (by assumption) ?rr16_22
   case hy16_22=>(intro w hSw;(try dsimp only at hSw);go_simp;try with_reducible rfl)
   try simp only [Act.put,lyA,lyB,lyC]
   refine take_w (i:=23) 198 (v:=?vv16_23) rfl rfl (by kernel_rfl) (by kernel_rfl) (by kernel_rfl) (fun _ _ _ h=>h) (Or.inl ⟨rfl,?hy16_23⟩) (by assumption) ?rr16_23
   case hy16_23=>(intro w hSw;(try dsimp only at hSw);go_simp;try with_reducible rfl)
   try simp only [Act.put,lyA,lyB,lyC]
   refine take_w (i:=24) 199 (v:=?vv16_24) rfl rfl (by kernel_rfl) (by kernel_rfl) (by kernel_rfl) (fun _ _ _ h=>h) (Or.inl ⟨rfl,?hy16_24⟩) (by assumption) ?rr16_24
   case hy16_24=>(intro w hSw;(try dsimp only at hSw);go_simp;try with_reducible rfl)
   try simp only [Act.put,lyA,lyB,lyC]
   refine take_w (i:=25) 200 (v:=?vv16_25) rfl rfl (by kernel_rfl) (by kernel_rfl) (by kernel_rfl) (fun _ _ _ h=>h) (Or.inl ⟨rfl,?hy16_25⟩) (by assumption) ?rr16_25
   case hy16_25=>(intro w hSw;(try dsimp only at hSw);obtain⟨u0,u1,u2,u3,u4,u5⟩:=c6_of (HS.out w hSw.out).1.1;go_simp;try with_reducible rfl)
   try simp only [Act.put,lyA,lyB,lyC]
   refine take_w (i:=27) 202 (v:=?vv16_27) rfl rfl (by kernel_rfl) (by kernel_rfl) (by kernel_rfl) (fun _ _ _ h=>h) (Or.inl ⟨rfl,?hy16_27⟩) (by assumption) ?rr16_27
   case hy16_27=>(intro w hSw;(try dsimp only at hSw);go_simp;try with_reducible rfl)
   try simp only [Act.put,lyA,lyB,lyC]
   refine take_w (i:=28) 203 (v:=?vv16_28) rfl rfl (by kernel_rfl) (by kernel_rfl) (by kernel_rfl) (fun _ _ _ h=>h) (Or.inl ⟨rfl,?hy16_28⟩) (by assumption) ?rr16_28
   case hy16_28=>(intro w hSw;(try dsimp only at hSw);obtain⟨u0,u1,u2,u3,u4,u5⟩:=c6_of (HS.out w hSw.out).1.2.2.1;go_simp;try with_reducible rfl)
   try simp only [Act.put,lyA,lyB,lyC]
   refine call_w (i:=26) 201 rfl rfl (by kernel_rfl) (fun K hK=>?_)
   go_simp
   go_at_call 74
   refine(point_c _ qb _ (NA2.out.mono hx9.out)).mono ?_;rintro e wx9 ⟨vv,rfl,h9,kk⟩;obtain⟨b39,A39,k39,ca39,B39,l39,cb39,b40,A40,k40,ca40,B40,l40,cb40,rfl,-,-⟩:=h9.form;have P3:=ZZ h9;clear h9;have e10:=ZZ kk;have hx10:=ZZ (al hx9.out kk);clear kk
   try go_wp2_with fail
   refine hK.out _ _ (hx10) (fun hHeld=>?_);clear hK K
   try simp only [Act.put,lyA,lyB,lyC]
   refine call_w (i:=29) 204 rfl rfl (by kernel_rfl) (fun K hK=>?_)
   go_simp
   go_at_call 97
   refine(point_n _ qb _ (NC2.out.mono hx10.out)).mono ?_;rintro e wx10 ⟨vv,rfl,h9,kk⟩;obtain⟨s41,A41,k41,ca41,B41,l41,cb41,s42,A42,k42,ca42,B42,l42,cb42,rfl⟩:=h9.form2;have Q3:=ZZ h9;clear h9;have e11:=ZZ kk;have hx11:=ZZ (al hx10.out kk);clear kk
   try go_wp2_with fail
   refine hK.out _ _ (hx11) (fun hHeld=>?_);clear hK K
   try simp only [Act.put,lyA,lyB,lyC]
   refine call_w (i:=30) 205 rfl rfl (by kernel_rfl) (fun K hK=>?_)
   go_simp
   go_at_call 79
   refine(alike_c 700000 (by decide) _ _ qb qb _ (P3.out.mono e11.out) Q3.out (BB.out.mono (by decide)) (BB.out.mono (by decide)) (TB9.out.mono hx11.out).2).mono ?_;rintro e wx11 ⟨rfl,kk⟩;have e12:=ZZ kk;have hx12:=ZZ (al hx11.out kk);clear kk
   try go_wp2_with fail
   refine hK.out _ _ (hx12) (fun hHeld=>?_);clear hK K
   try simp only [Act.put,lyA,lyB,lyC]
   refine take_w (i:=31) 206 (v:=?vv16_31) rfl rfl (by kernel_rfl) (by kernel_rfl) (by kernel_rfl) (fun _ _ _ h=>h) (Or.inl ⟨rfl,?hy16_31⟩) (by assumption) ?rr16_31
   case hy16_31=>(intro w hSw;(try dsimp only at hSw);go_simp;try with_reducible rfl)
   try simp only [Act.put,lyA,lyB,lyC]
   refine take_w (i:=32) 207 (v:=?vv16_32) rfl rfl (by kernel_rfl) (by kernel_rfl) (by kernel_rfl) (fun _ _ _ h=>h) (Or.inl ⟨rfl,?hy16_32⟩) (by assumption) ?rr16_32
   case hy16_32=>(intro w hSw;(try dsimp only at hSw);go_simp;try with_reducible rfl)
   try simp only [Act.put,lyA,lyB,lyC]
   refine call_w (i:=33) 208 rfl rfl (by kernel_rfl) (fun K hK=>?_)
   go_simp
   go_at_call 19
   refine(awake_c _ (TB9.out.mono hx12.out)).mono ?_;rintro e wx12 ⟨rfl,kk⟩;have e13:=ZZ kk;have hx13:=ZZ (al hx12.out kk);clear kk
   try go_wp2_with fail
   refine hK.out _ _ (hx13) (fun hHeld=>?_);clear hK K
   try simp only [Act.put,lyA,lyB,lyC]
   refine take_w (i:=34) 209 (v:=?vv16_34) rfl rfl (by kernel_rfl) (by kernel_rfl) (by kernel_rfl) (fun _ _ _ h=>h) (Or.inl ⟨rfl,?hy16_34⟩) (by assumption) ?rr16_34
   case hy16_34=>(intro w hSw;(try dsimp only at hSw);go_simp;try with_reducible rfl)
   try simp only [Act.put,lyA,lyB,lyC]
   refine take_w (i:=35) 6 (v:=?vv16_35) rfl rfl (by kernel_rfl) (by kernel_rfl) (by kernel_rfl) (fun _ _ _ h=>h) (Or.inl ⟨rfl,?hy16_35⟩) (by assumption) ?rr16_35
   case hy16_35=>(intro w hSw;(try dsimp only at hSw);go_simp;try with_reducible rfl)
   try simp only [Act.put,lyA,lyB,lyC]
   refine wpAnyH_done (by kernel_rfl) ?_ _;refine NoPanic.normal ?_;go_wp2_with fail;go_ret;exact⟨by first|rfl|simp,al EX.out hx13.out⟩
end Go.Proofs.YtpgdefgdboijlaaGreatDoor
