/- Spans of the reference: their cells, their ends in order. Printed by gen_sf.py. -/
import Derived.Test.YtpgdefgdboijlaaGreatDoorSe
import Derived.Test.YtpgdefgdboijlaaGreatDoorRw
import Derived.Test.YtpgdefgdboijlaaGreatDoorNj
import Derived.Deep.RegionHeld3
import Derived.Deep.DeepCutAuto
set_option linter.unusedVariables false
set_option maxRecDepth 100000
set_option maxHeartbeats 16000000
namespace Go.Proofs.YtpgdefgdboijlaaGreatDoor
open Go.RowKit
theorem ak {W:World} {x0 x1 x2 y0 y1 y2:Value} {lo hi:Rat}:SpR W (.agg #[x0,x1,x2,y0,y1,y2]) lo hi↔Nr W (.agg #[x0,x1,x2]) lo∧Nr W (.agg #[y0,y1,y2]) hi:=by
 constructor
 ·rintro⟨a,b,c,d,e,f,h,h1,h2⟩
  simp only [Value.agg.injEq,Array.mk.injEq,List.cons.injEq,and_true] at h
  obtain⟨rfl,rfl,rfl,rfl,rfl,rfl⟩:=h;exact⟨h1,h2⟩
 ·exact fun h=>⟨_,_,_,_,_,_,rfl,h.1,h.2⟩
theorem SpR.form2 {w:World} {v:Value} {lo hi:Rat} (h:SpR w v lo hi):∃s1 A1 k1 ca1 B1 l1 cb1 s2 A2 k2 ca2 B2 l2 cb2,v=.agg #[.int .i64 s1,.slice A1 k1 ca1,.slice B1 l1 cb1,.int .i64 s2,.slice A2 k2 ca2,.slice B2 l2 cb2]:=by
 obtain⟨x0,x1,x2,y0,y1,y2,rfl,h1,h2⟩:=h;obtain⟨s1,A1,k1,ca1,B1,l1,cb1,e1,-⟩:=h1.form;obtain⟨s2,A2,k2,ca2,B2,l2,cb2,e2,-⟩:=h2.form
 simp only [Value.agg.injEq,Array.mk.injEq,List.cons.injEq,and_true] at e1 e2
 obtain⟨rfl,rfl,rfl⟩:=e1;obtain⟨rfl,rfl,rfl⟩:=e2;exact⟨s1,A1,k1,ca1,B1,l1,cb1,s2,A2,k2,ca2,B2,l2,cb2,rfl⟩
theorem c6_of {W:World} {g:Nat} {a b c d e f:Value} {T:TypeId} (h:W.heap[g]?=some (.cells #[a,b,c,d,e,f] T (0,0))):W.cell? ⟨g,0,none⟩=some (a)∧W.cell? ⟨g,1,none⟩=some (b)∧W.cell? ⟨g,2,none⟩=some (c)∧W.cell? ⟨g,3,none⟩=some (d)∧W.cell? ⟨g,4,none⟩=some (e)∧W.cell? ⟨g,5,none⟩=some (f):=by
 obtain⟨p0,p1,p2,p3,p4,p5,-⟩:=ah h;exact⟨p0,p1,p2,p3,p4,p5⟩
theorem c6_put {W:World} {g k:Nat} {a b c d e f:Value} {T:TypeId} (h:W.heap[g]?=some (.cells #[a,b,c,d,e,f] T (0,0))) (hne:g≠k) (x0 x1 x2 y0 y1 y2:Value):((((((W.setCell ⟨k,0,none⟩ x0).setCell ⟨k,1,none⟩ x1).setCell ⟨k,2,none⟩ x2).setCell ⟨k,3,none⟩ y0).setCell ⟨k,4,none⟩ y1).setCell ⟨k,5,none⟩ y2).cell? ⟨g,0,none⟩=some (a)∧((((((W.setCell ⟨k,0,none⟩ x0).setCell ⟨k,1,none⟩ x1).setCell ⟨k,2,none⟩ x2).setCell ⟨k,3,none⟩ y0).setCell ⟨k,4,none⟩ y1).setCell ⟨k,5,none⟩ y2).cell? ⟨g,1,none⟩=some (b)∧((((((W.setCell ⟨k,0,none⟩ x0).setCell ⟨k,1,none⟩ x1).setCell ⟨k,2,none⟩ x2).setCell ⟨k,3,none⟩ y0).setCell ⟨k,4,none⟩ y1).setCell ⟨k,5,none⟩ y2).cell? ⟨g,2,none⟩=some (c)∧((((((W.setCell ⟨k,0,none⟩ x0).setCell ⟨k,1,none⟩ x1).setCell ⟨k,2,none⟩ x2).setCell ⟨k,3,none⟩ y0).setCell ⟨k,4,none⟩ y1).setCell ⟨k,5,none⟩ y2).cell? ⟨g,3,none⟩=some (d)∧((((((W.setCell ⟨k,0,none⟩ x0).setCell ⟨k,1,none⟩ x1).setCell ⟨k,2,none⟩ x2).setCell ⟨k,3,none⟩ y0).setCell ⟨k,4,none⟩ y1).setCell ⟨k,5,none⟩ y2).cell? ⟨g,4,none⟩=some (e)∧((((((W.setCell ⟨k,0,none⟩ x0).setCell ⟨k,1,none⟩ x1).setCell ⟨k,2,none⟩ x2).setCell ⟨k,3,none⟩ y0).setCell ⟨k,4,none⟩ y1).setCell ⟨k,5,none⟩ y2).cell? ⟨g,5,none⟩=some (f):=
 c6_of (ag h hne x0 x1 x2 y0 y1 y2)
theorem setG2 (w:World) (o p:Obj):Ext w ((w.alloc o).alloc p)∧((w.alloc o).alloc p).heap[w.heap.size]?=some o∧((w.alloc o).alloc p).heap[w.heap.size+1]?=some p:=by
 refine⟨ext2 _ _ _,((ab (w.alloc o) p).block _ (lt_of_block (heap_alloc_new w o))).trans (heap_alloc_new w o),?_⟩;rw [←aC w o];exact heap_alloc_new _ _
theorem setG3 (w:World) (o p q:Obj):Ext w (((w.alloc o).alloc p).alloc q)∧(((w.alloc o).alloc p).alloc q).heap[w.heap.size]?=some o∧(((w.alloc o).alloc p).alloc q).heap[w.heap.size+1]?=some p∧(((w.alloc o).alloc p).alloc q).heap[w.heap.size+1+1]?=some q:=by
 obtain⟨h1,h2,h3⟩:=setG2 w o p;have k:=ab ((w.alloc o).alloc p) q;refine⟨al h1 k,(k.block _ (lt_of_block h2)).trans h2,(k.block _ (lt_of_block h3)).trans h3,?_⟩;rw [←aC w o,←aC (w.alloc o) p];exact heap_alloc_new _ _
theorem am {W:World} {v:Value} {q:Rat} {g:Nat} (h:Nr W v q) (hz:W.heap[g]?=some (.cells #[.int .i64 0,.slice none 0 0,.slice none 0 0,.int .i64 0,.slice none 0 0,.slice none 0 0] 85 (0,0))) (a b c d e f:Value):Nr (put6 W g a b c d e f) v q:=
 h.keep (nodigR hz) (put6_keep W g a b c d e f)
theorem ends_c (M:Nat) (hM:M≤134217728) (v:Value) (lo hi:Rat) (w:World) (h:SpR w v lo hi) (b1:Bq M lo) (b2:Bq M hi):Calls Tryz.prog 142 #[v] w fun e w'=>∃v',e=.returned v'∧(∀W,SpR W v lo hi→SpR W v' (ar lo hi).1 (ar lo hi).2)∧Ext w w':=by
 obtain⟨s5,A5,k5,ca5,B5,l5,cb5,s6,A6,k6,ca6,B6,l6,cb6,rfl⟩:=h.form2;obtain⟨hn1,hn2⟩:=ak.1 h;have H1:=ZZ hn1;have H2:=ZZ hn2;have B1:=ZZ b1;have B2:=ZZ b2;have HM:=ZZ hM;obtain⟨hw0,hra,hrz⟩:=setG2 w (.cells #[.int .i64 s5,.slice A5 k5 ca5,.slice B5 l5 cb5,.int .i64 s6,.slice A6 k6 ca6,.slice B6 l6 cb6] 85) (.cells #[.int .i64 0,.slice none 0 0,.slice none 0 0,.int .i64 0,.slice none 0 0,.slice none 0 0] 85);have hww:=ZZ hw0;have RA:=ZZ hra;have RZ:=ZZ hrz;clear h hn1 hn2 b1 b2 hM hw0 hra hrz
 go_enter Tryz.func142,Tryz.ntmps142
 go_upto_region 1 with (fail)
 generalize World.alloc (World.alloc w (.cells #[.int .i64 s5,.slice A5 k5 ca5,.slice B5 l5 cb5,.int .i64 s6,.slice A6 k6 ca6,.slice B6 l6 cb6] _)) (.cells #[.int .i64 0,.slice none 0 0,.slice none 0 0,.int .i64 0,.slice none 0 0,.slice none 0 0] _)=W2 at *;have LT0:=ZZ (show w.heap.size≤w.heap.size+1 from Nat.le_succ _);generalize hg0:w.heap.size=g0 at *;have HG0:=ZZ hg0;clear hg0;have n01:=ZZ (show g0≠g0+1 by omega)
 have HR:=ZZ (show ∀W:World,Ext W2 W→W.heap[g0]?=some (.cells #[.int .i64 s5,.slice A5 k5 ca5,.slice B5 l5 cb5,.int .i64 s6,.slice A6 k6 ca6,.slice B6 l6 cb6] 85 (0,0))∧W.heap[g0+1]?=some (.cells #[.int .i64 0,.slice none 0 0,.slice none 0 0,.int .i64 0,.slice none 0 0,.slice none 0 0] 85 (0,0)) from fun W h=>
  ⟨(h.block _ (lt_of_block RA.out)).trans RA.out,(h.block _ (lt_of_block RZ.out)).trans RZ.out⟩)
 clear RA RZ;have e1:=ZZ (ac W2);have hx1:=e1
 go_region_held3 (fun W=>W.cell? ⟨g0,0,none⟩=some (.int .i64 s5)∧W.cell? ⟨g0,1,none⟩=some (.slice A5 k5 ca5)∧W.cell? ⟨g0,2,none⟩=some (.slice B5 l5 cb5)∧W.cell? ⟨g0,3,none⟩=some (.int .i64 s6)∧W.cell? ⟨g0,4,none⟩=some (.slice A6 k6 ca6)∧W.cell? ⟨g0,5,none⟩=some (.slice B6 l6 cb6))
  (first
   | with_reducible exact c6_of (HR.out _ hx3.out).1
   | with_reducible exact c6_of (HR.out _ hx2.out).1
   | with_reducible exact c6_of (HR.out _ hx1.out).1
   | with_reducible exact c6_put (HR.out _ hx3.out).1 n01.out _ _ _ _ _ _)
  (first
   |(have _q:=hx2
     go_at_call 62
     refine(max_v M HM.out _ _ lo hi _ (H1.out.mono (al hww.out hx2.out)) (H2.out.mono (al hww.out hx2.out)) B1.out B2.out).mono ?_;clear _q;rintro e w8 ⟨v8,rfl,h8,kk8⟩;obtain⟨s12,A12,k12,ca12,B12,l12,cb12,rfl,-⟩:=(h8 _ (H1.out.mono (al hww.out hx2.out)) (H2.out.mono (al hww.out hx2.out))).form;have H5:=ZZ h8;have hx3:=ZZ (al hx2.out kk8);clear h8 kk8;obtain⟨-,rz⟩:=HR.out w8 hx3.out;obtain⟨z0,z1,z2,z3,z4,z5,zf0,zf1,zf2,zf3,zf4,zf5⟩:=ah rz;clear rz)
   |(have _q:=hx1
     go_at_call 60
     refine(min_v M HM.out _ _ lo hi _ (H1.out.mono (al hww.out hx1.out)) (H2.out.mono (al hww.out hx1.out)) B1.out B2.out).mono ?_;clear _q;rintro e w7 ⟨v7,rfl,h7,kk7⟩;obtain⟨s11,A11,k11,ca11,B11,l11,cb11,rfl,-⟩:=(h7 _ (H1.out.mono (al hww.out hx1.out)) (H2.out.mono (al hww.out hx1.out))).form;have H4:=ZZ h7;have hx2:=ZZ (al hx1.out kk7);clear h7 kk7))
 all_goals
  go_wp2_with fail;refine bodyPost_ret (v:=.agg #[.int .i64 s11,.slice A11 k11 ca11,.slice B11 l11 cb11,.int .i64 s12,.slice A12 k12 ca12,.slice B12 l12 cb12]) (by simp [results,Tryz.f142];go_simp) rfl ?_
  refine⟨_,rfl,fun W h=>?_,ae (al hww.out hx3.out) (by rw [HG0.out];exact LT0.out) _ _ _ _ _ _⟩;obtain⟨p1,p2⟩:=ak.1 h;rw [←(ends_sort lo hi).1,←(ends_sort lo hi).2];exact ak.2 ⟨H4.out W p1 p2,H5.out W p1 p2⟩
end Go.Proofs.YtpgdefgdboijlaaGreatDoor
