/- Numbers: rounding to significant bits. Printed by gen_nj.py. Spans: their cells; in order. Spans: a square. Plain laws of spans: results of numbers are in the results of their spans. Plain laws of spans: what the reference computes of the ends is what the program computes. -/
import Derived.Test.YtpgdefgdboijlaaGreatDoorNi
import Derived.Test.YtpgdefgdboijlaaGreatDoorNg
import Derived.Test.YtpgdefgdboijlaaGreatDoorNh
import Derived.Deep.DeepCutAuto
set_option linter.unusedVariables false
set_option maxRecDepth 100000
set_option maxHeartbeats 16000000
namespace Go.Proofs.YtpgdefgdboijlaaGreatDoor
open Go.RowKit
def stepQ (x:Rat) (bits:Int):Int:=logQ x - min (max bits 1) 2000+1
def ax (x:Rat) (bits:Int) (away:Bool):Rat:=if x=0 then 0 else shQ (wholeQ (shQ x (-(stepQ x bits))) away) (stepQ x bits)
theorem stepQ_bound {M:Nat} {x:Rat} (h:Bq M x) (bits:Int):(stepQ x bits).natAbs≤M+2001:=by
 have:=logQ_bound h
 unfold stepQ;omega
theorem Bq.round {M:Nat} {x:Rat} {bits:Int} {away:Bool} (h:Bq M x) (hM:0<M):Bq (3*M+4003) (ax x bits away):=by
 unfold ax
 split
 ·exact bq_zero _ (by omega)
 ·have hs:=stepQ_bound h bits
  have h1:Bq (M+(M+2001)) (shQ x (-(stepQ x bits))):=(Bq.sh h).mono (by rw [Int.natAbs_neg];omega);have h2:=(Bq.wh h1:Bq _ (wholeQ (shQ x (-(stepQ x bits))) away));exact(Bq.sh h2).mono (by omega)
theorem rounded_zero (bits:Int) (away:Bool) (vx:Value) (w:World) (hx:Nm w vx 0):Calls Tryz.prog 126 #[vx,.int .i64 bits,.bool away] w fun e w'=>∃v,e=.returned v∧Nm w' v 0∧Ext w w':=by
 obtain⟨A,k,ca,B,l,cb,rfl,-,-,hkx,-⟩:=hx.form;obtain rfl:k=0:=hkx.2 rfl;clear hkx;have Hx:=ZZ hx;clear hx;generalize decide ((0:Rat).num<0)=b1 at *
 go_enter Tryz.func126,Tryz.ntmps126
 go_wp2_with fail;refine bodyPost_ret (v:=.agg #[.bool b1,.slice A 0 ca,.slice B l cb]) (by simp [results,Tryz.f126];go_simp) rfl ?_
 exact⟨_,rfl,Hx.out.mono (ext2 _ _ _),ext2 _ _ _⟩
theorem rounded_main (M:Nat) (hM:M≤1073741824) (bits:Int) (away:Bool) (vx:Value) (x:Rat) (w:World) (hx:Nm w vx x) (bx:Bq M x) (h0:x≠0):Calls Tryz.prog 126 #[vx,.int .i64 bits,.bool away] w fun e w'=>∃v,e=.returned v∧Nm w' v (shQ (wholeQ (shQ x (-(stepQ x bits))) away) (stepQ x bits))∧Ext w w':=by
 have BX:=ZZ bx;have hL:=logQ_bound bx;have hs:=stepQ_bound bx bits;obtain⟨L,hLe⟩:∃L,logQ x=L:=⟨_,rfl⟩;obtain⟨s,hse⟩:∃s,stepQ x bits=s:=⟨_,rfl⟩;have hse':L - min (max bits 1) 2000+1=s:=by rw [←hLe,←hse];rfl
 rw [hse] at hs ⊢;rw [hLe] at hL;have HL:=ZZ hLe;have HSE:=ZZ hse';have HSB:=ZZ hs;have B1:=ZZ (show Bq (M+(M+2001)) (shQ x (-s)) from (Bq.sh bx).mono (by rw [Int.natAbs_neg];omega));have u1:IntKind.i64.wrap (L - min (max bits 1) 2000)=L - min (max bits 1) 2000:=IntWalk.i64_in _ (by omega);have u2:IntKind.i64.wrap (L - min (max bits 1) 2000+1)=s:=(IntWalk.i64_in _ (by omega)).trans hse';have u3:IntKind.i64.wrap (-s) = -s:=IntWalk.i64_in _ (by omega);have U1:=ZZ u1;have U2:=ZZ u2;have U3:=ZZ u3;have HM:=ZZ hM;clear u1 u2 u3 hLe hse hse' hs hL bx hM;have H0:=ZZ h0;clear h0;obtain⟨A,k,ca,B,l,cb,rfl,hxn,hxd,hkx,hlx⟩:=hx.form;have Hx:=ZZ hx;have Hxn:=ZZ hxn;have Hkx:=ZZ hkx;have Hlx:=ZZ hlx;clear hx hxn hxd hkx hlx;generalize hbx:decide (x.num<0)=b1 at *;have Hbx:=ZZ hbx;clear hbx
 have t1:((k:Int) == 0)=false:=by
  have h:¬ k=0:=fun h=>H0.out (Hkx.out.1 h)
  simp;omega
 obtain⟨hS,hZ,hw1,hw2,hsz,hsz1⟩:=setup1 w (.bool b1) (.slice A k ca) (.slice B l cb);have HS:=ZZ hS;have HZ:=ZZ hZ;have HW1:=ZZ hw1;have HW2:=ZZ hw2;have Hsz1:=ZZ hsz1;clear hS hZ hw1 hw2 hsz hsz1
 go_enter Tryz.func126,Tryz.ntmps126
 go_wp2_with fail;generalize World.alloc (World.alloc w (.cells #[.bool b1,.slice A k ca,.slice B l cb] _)) _=W2 at *
 generalize World.alloc w (.cells #[.bool b1,.slice A k ca,.slice B l cb] _)=W1 at *;generalize hg0:w.heap.size=g0 at *;have Hsz:=ZZ (show w.heap.size≤g0+1 by omega);clear hg0;have hww:=ZZ (al HW1.out HW2.out);have hx0:=ZZ (ad W2);have hcs:=HS.out W2 HW2.out;refine(log_q M (Nat.le_trans HM.out (by decide)) _ _ _ (Hx.out.mono (al hww.out hx0.out)) BX.out).mono ?_;rintro e w1 ⟨rfl,kk⟩;have e1:=ZZ kk;have hx1:=ZZ (al hx0.out kk);clear kk;obtain⟨r0,r1,r2⟩:=HS.out _ (al HW2.out hx1.out);rw [HL.out];have u1:=U1.out;have u2:=U2.out;have u3:=U3.out;go_wp2_with fail;refine(shifted_q M (Nat.le_trans HM.out (by decide)) (-s) (by have h:=HSB.out;have h2:=HM.out;rw [Int.natAbs_neg];omega) _ _ _ (Hx.out.mono (al hww.out hx1.out)) BX.out).mono ?_;rintro e w2 ⟨v_,rfl,hh,kk⟩;obtain⟨b2,P2,p2,c2,Q2,q2,d2,rfl⟩:=hh.form2;have G2:=ZZ hh;clear hh;have e2:=ZZ kk;have hx2:=ZZ (al hx1.out kk);clear kk;go_wp2_with fail;refine(whole_q (M+(M+2001)) (by have h2:=HM.out;omega) away _ _ _ G2.out B1.out).mono ?_;rintro e w3 ⟨v_,rfl,hh,kk⟩;obtain⟨b3,P3,p3,c3,Q3,q3,d3,rfl⟩:=hh.form2;have G3:=ZZ hh;clear hh;have e3:=ZZ kk;have hx3:=ZZ (al hx2.out kk);clear kk;go_wp2_with fail;refine(shifted_q (M+(M+2001)+1) (by have h2:=HM.out;omega) s (by have h:=HSB.out;have h2:=HM.out;omega) _ _ _ G3.out (Bq.wh B1.out)).mono ?_;rintro e w4 ⟨v_,rfl,hh,kk⟩;obtain⟨b4,P4,p4,c4,Q4,q4,d4,rfl⟩:=hh.form2;have G4:=ZZ hh;clear hh;have e4:=ZZ kk;have hx4:=ZZ (al hx3.out kk);clear kk;have hz:=HZ.out _ hx4.out
 obtain⟨z0,z1,z2,f0,f1,f2⟩:=ai hz;have Hz:=ZZ hz;clear hz;go_wp2_with fail;refine bodyPost_ret (v:=.agg #[.bool b4,.slice P4 p4 c4,.slice Q4 q4 d4]) (by simp [results,Tryz.f126];go_simp) rfl ?_;exact⟨_,rfl,G4.out.put3 Hz.out,ao (al hww.out hx4.out) Hsz.out _ _ _⟩
theorem rounded_q (M:Nat) (hM:M≤1073741824) (bits:Int) (away:Bool) (vx:Value) (x:Rat) (w:World) (hx:Nm w vx x) (bx:Bq M x):Calls Tryz.prog 126 #[vx,.int .i64 bits,.bool away] w fun e w'=>∃v,e=.returned v∧Nm w' v (ax x bits away)∧Ext w w':=by
 unfold ax
 by_cases h:x=0
 ·rw [if_pos h];subst h
  exact rounded_zero bits away vx w hx
 ·rw [if_neg h]
  exact rounded_main M hM bits away vx x w hx bx h
theorem down_q (M:Nat) (hM:M≤1073741824) (bits:Int) (vx:Value) (x:Rat) (w:World) (hx:Nm w vx x) (bx:Bq M x):Calls Tryz.prog 31 #[vx,.int .i64 bits] w fun e w'=>∃v,e=.returned v∧Nm w' v (ax x bits (decide (x.num<0)))∧Ext w w':=by
 have BX:=ZZ bx;have HM:=ZZ hM;clear bx hM;obtain⟨A,k,ca,B,l,cb,rfl,hxn,hxd,hkx,hlx⟩:=hx.form;have Hx:=ZZ hx;have Hxn:=ZZ hxn;have Hkx:=ZZ hkx;have Hlx:=ZZ hlx;clear hx hxn hxd hkx hlx;generalize hbx:decide (x.num<0)=b1 at *;have Hbx:=ZZ hbx;clear hbx;obtain⟨hS,hZ,hw1,hw2,hsz,hsz1⟩:=setup1 w (.bool b1) (.slice A k ca) (.slice B l cb);have HS:=ZZ hS;have HZ:=ZZ hZ;have HW1:=ZZ hw1;have HW2:=ZZ hw2;have Hsz1:=ZZ hsz1;clear hS hZ hw1 hw2 hsz hsz1
 go_enter Tryz.func31,Tryz.ntmps31
 go_wp2_with fail;generalize World.alloc (World.alloc w (.cells #[.bool b1,.slice A k ca,.slice B l cb] _)) _=W2 at *
 generalize World.alloc w (.cells #[.bool b1,.slice A k ca,.slice B l cb] _)=W1 at *;generalize hg0:w.heap.size=g0 at *;have Hsz:=ZZ (show w.heap.size≤g0+1 by omega);clear hg0;have hww:=ZZ (al HW1.out HW2.out);refine(rounded_q M HM.out bits b1 _ x _ (Hx.out.mono hww.out) BX.out).mono ?_;rintro e w1 ⟨v1,rfl,h1,k1⟩;obtain⟨b4,P4,p4,c4,Q4,q4,d4,rfl⟩:=h1.form2;have G4:=ZZ h1;have K1:=ZZ k1;have hz:=HZ.out _ k1;obtain⟨z0,z1,z2,f0,f1,f2⟩:=ai hz;have Hz:=ZZ hz;clear hz h1 k1;go_wp2_with fail;refine bodyPost_ret (v:=.agg #[.bool b4,.slice P4 p4 c4,.slice Q4 q4 d4]) (by simp [results,Tryz.f31];go_simp) rfl ?_;refine⟨_,rfl,?_,ao (al hww.out K1.out) Hsz.out _ _ _⟩;exact G4.out.put3 Hz.out
theorem up_q (M:Nat) (hM:M≤1073741824) (bits:Int) (vx:Value) (x:Rat) (w:World) (hx:Nm w vx x) (bx:Bq M x):Calls Tryz.prog 33 #[vx,.int .i64 bits] w fun e w'=>∃v,e=.returned v∧Nm w' v (ax x bits (!decide (x.num<0)))∧Ext w w':=by
 have BX:=ZZ bx;have HM:=ZZ hM;clear bx hM;obtain⟨A,k,ca,B,l,cb,rfl,hxn,hxd,hkx,hlx⟩:=hx.form;have Hx:=ZZ hx;have Hxn:=ZZ hxn;have Hkx:=ZZ hkx;have Hlx:=ZZ hlx;clear hx hxn hxd hkx hlx;generalize hbx:decide (x.num<0)=b1 at *;have Hbx:=ZZ hbx;clear hbx;obtain⟨hS,hZ,hw1,hw2,hsz,hsz1⟩:=setup1 w (.bool b1) (.slice A k ca) (.slice B l cb);have HS:=ZZ hS;have HZ:=ZZ hZ;have HW1:=ZZ hw1;have HW2:=ZZ hw2;have Hsz1:=ZZ hsz1;clear hS hZ hw1 hw2 hsz hsz1
 go_enter Tryz.func33,Tryz.ntmps33
 go_wp2_with fail;generalize World.alloc (World.alloc w (.cells #[.bool b1,.slice A k ca,.slice B l cb] _)) _=W2 at *
 generalize World.alloc w (.cells #[.bool b1,.slice A k ca,.slice B l cb] _)=W1 at *;generalize hg0:w.heap.size=g0 at *;have Hsz:=ZZ (show w.heap.size≤g0+1 by omega);clear hg0;have hww:=ZZ (al HW1.out HW2.out);refine(rounded_q M HM.out bits (!b1) _ x _ (Hx.out.mono hww.out) BX.out).mono ?_;rintro e w1 ⟨v1,rfl,h1,k1⟩;obtain⟨b4,P4,p4,c4,Q4,q4,d4,rfl⟩:=h1.form2;have G4:=ZZ h1;have K1:=ZZ k1;have hz:=HZ.out _ k1;obtain⟨z0,z1,z2,f0,f1,f2⟩:=ai hz;have Hz:=ZZ hz;clear hz h1 k1;go_wp2_with fail;refine bodyPost_ret (v:=.agg #[.bool b4,.slice P4 p4 c4,.slice Q4 q4 d4]) (by simp [results,Tryz.f33];go_simp) rfl ?_;refine⟨_,rfl,?_,ao (al hww.out K1.out) Hsz.out _ _ _⟩;exact G4.out.put3 Hz.out
end Go.Proofs.YtpgdefgdboijlaaGreatDoor
namespace Go.Proofs.YtpgdefgdboijlaaGreatDoor
open Go.RowKit
def Sp (w:World) (v:Value) (lo hi:Rat):Prop:=∃x0 x1 x2 y0 y1 y2,v=.agg #[x0,x1,x2,y0,y1,y2]∧Nm w (.agg #[x0,x1,x2]) lo∧Nm w (.agg #[y0,y1,y2]) hi
theorem Sp.mono {w w':World} {v:Value} {lo hi:Rat} (h:Sp w v lo hi) (k:Ext w w'):Sp w' v lo hi:=by
 obtain⟨x0,x1,x2,y0,y1,y2,e,h1,h2⟩:=h;exact⟨x0,x1,x2,y0,y1,y2,e,h1.mono k,h2.mono k⟩
theorem Sp.form {w:World} {v:Value} {lo hi:Rat} (h:Sp w v lo hi):∃b1 A k ca B l cb b2 C m cc D n cd,v=.agg #[.bool b1,.slice A k ca,.slice B l cb,.bool b2,.slice C m cc,.slice D n cd]∧Nm w (.agg #[.bool b1,.slice A k ca,.slice B l cb]) lo∧Nm w (.agg #[.bool b2,.slice C m cc,.slice D n cd]) hi:=by
 obtain⟨x0,x1,x2,y0,y1,y2,rfl,h1,h2⟩:=h;obtain⟨b1,A,k,ca,B,l,cb,e1⟩:=h1.form2;obtain⟨b2,C,m,cc,D,n,cd,e2⟩:=h2.form2
 simp only [Value.agg.injEq,Array.mk.injEq,List.cons.injEq,and_true] at e1 e2
 obtain⟨rfl,rfl,rfl⟩:=e1;obtain⟨rfl,rfl,rfl⟩:=e2;exact⟨b1,A,k,ca,B,l,cb,b2,C,m,cc,D,n,cd,rfl,h1,h2⟩
theorem row6 {w W:World} {a b c d e f:Value} (h:Ext (w.alloc (.cells #[a,b,c,d,e,f] 68)) W):W.heap[w.heap.size]?=some (.cells #[a,b,c,d,e,f] 68 (0,0)):=
 (h.block _ (by simp)).trans (heap_alloc_new w _)
theorem ah {W:World} {g:Nat} {a b c d e f:Value} {T:TypeId} (h:W.heap[g]?=some (.cells #[a,b,c,d,e,f] T (0,0))):W.cell? ⟨g,0,none⟩=some a∧W.cell? ⟨g,1,none⟩=some b∧W.cell? ⟨g,2,none⟩=some c∧W.cell? ⟨g,3,none⟩=some d∧W.cell? ⟨g,4,none⟩=some e∧W.cell? ⟨g,5,none⟩=some f∧W.frozen? ⟨g,0,none⟩=false∧W.frozen? ⟨g,1,none⟩=false∧W.frozen? ⟨g,2,none⟩=false∧W.frozen? ⟨g,3,none⟩=false∧W.frozen? ⟨g,4,none⟩=false∧W.frozen? ⟨g,5,none⟩=false:=by
 refine⟨?_,?_,?_,?_,?_,?_,?_,?_,?_,?_,?_,?_⟩ <;> simp [World.cell?,World.frozen?,h]
def put6 (W:World) (g:Nat) (a b c d e f:Value):World:=(((((W.setCell ⟨g,0,none⟩ a).setCell ⟨g,1,none⟩ b).setCell ⟨g,2,none⟩ c).setCell ⟨g,3,none⟩ d).setCell ⟨g,4,none⟩ e).setCell ⟨g,5,none⟩ f
theorem ae {w W:World} {g:Nat} (h:Ext w W) (hg:w.heap.size≤g) (a b c d e f:Value):Ext w (put6 W g a b c d e f):=
 ((((((h.setCell hg _).setCell hg _).setCell hg _).setCell hg _).setCell hg _).setCell hg _)
theorem ag {W:World} {g k:Nat} {o:Obj} (h:W.heap[k]?=some o) (hne:k≠g) (a b c d e f:Value):(put6 W g a b c d e f).heap[k]?=some o:=by
 unfold put6;rw [Below.heap_setCell _ _ _ _ hne,Below.heap_setCell _ _ _ _ hne,Below.heap_setCell _ _ _ _ hne,Below.heap_setCell _ _ _ _ hne,Below.heap_setCell _ _ _ _ hne,Below.heap_setCell _ _ _ _ hne];exact h
theorem af {W:World} {g:Nat} {a0 b0 c0 d0 e0 f0:Value} {T:TypeId} (h:W.heap[g]?=some (.cells #[a0,b0,c0,d0,e0,f0] T (0,0))) (a b c d e f:Value):(put6 W g a b c d e f).heap[g]?=some (.cells #[a,b,c,d,e,f] T (0,0)):=by
 unfold put6
 simp [World.setCell,Array.getElem?_modify,h]
theorem Wd.put6 {W:World} {v:Value} {q g:Nat} {b1 b2:Bool} {A B C D:Option Addr} {k ca l cb m cc n cd:Nat} {T:TypeId} (h:Wd W v q) (hg:W.heap[g]?=some (.cells #[.bool b1,.slice A k ca,.slice B l cb,.bool b2,.slice C m cc,.slice D n cd] T (0,0))) (a b c d e f:Value):Wd (put6 W g a b c d e f) v q:=by
 obtain⟨A',cx,e',hc,hcl⟩:=h;refine⟨A',cx,e',hc,?_⟩
 rcases Nat.eq_zero_or_pos (dg q).length with h0|h0
 ·left;rw [List.length_eq_zero_iff.1 h0];rfl
 ·obtain⟨bl,o,hA,hce⟩:=hcl.at_ (by simpa using h0)
  right
  refine⟨bl,o,hA,fun j hj=>?_⟩;have hj':j<(dg q).length:=by simpa using hj
  have h1:=hce j hj
  have hne:bl≠g:=by
   intro hb;subst hb;rw [getD_map_u64 _ _ hj'] at h1
   simp only [World.cell?,hg] at h1
   rcases Nat.lt_or_ge (o+j) 6 with h3|h3
   ·rcases(show o+j=0∨o+j=1∨o+j=2∨o+j=3∨o+j=4∨o+j=5 by omega) with e|e|e|e|e|e <;> rw [e] at h1 <;> simp at h1
   ·rw [Array.getElem?_eq_none (by simpa using h3)] at h1
    simp at h1
  rw [←h1]
  apply World.cell?_of_block
  unfold Go.Proofs.YtpgdefgdboijlaaGreatDoor.put6;rw [Below.heap_setCell _ _ _ _ hne,Below.heap_setCell _ _ _ _ hne,Below.heap_setCell _ _ _ _ hne,Below.heap_setCell _ _ _ _ hne,Below.heap_setCell _ _ _ _ hne,Below.heap_setCell _ _ _ _ hne]
theorem Nm.put6 {W:World} {v:Value} {q:Rat} {g:Nat} {b1 b2:Bool} {A B C D:Option Addr} {k ca l cb m cc n cd:Nat} {T:TypeId} (h:Nm W v q) (hg:W.heap[g]?=some (.cells #[.bool b1,.slice A k ca,.slice B l cb,.bool b2,.slice C m cc,.slice D n cd] T (0,0))) (a b c d e f:Value):Nm (put6 W g a b c d e f) v q:=by
 obtain⟨vn,vd,e',h1,h2⟩:=h;exact⟨vn,vd,e',h1.put6 hg ..,h2.put6 hg ..⟩
def ar (lo hi:Rat):Rat × Rat:=if hi<lo then (hi,lo) else (lo,hi)
theorem sorted_c (M:Nat) (hM:M≤1099511627776) (v:Value) (lo hi:Rat) (w:World) (h:Sp w v lo hi) (b1:Bq M lo) (b2:Bq M hi):Calls Tryz.prog 141 #[v] w fun e w'=>∃v',e=.returned v'∧Sp w' v' (ar lo hi).1 (ar lo hi).2∧Ext w w':=by
 obtain⟨c1,A,k,ca,B,l,cb,c2,C,m,cc,D,n,cd,rfl,h1,h2⟩:=h.form;have H1:=ZZ h1;have H2:=ZZ h2;have B1:=ZZ b1;have B2:=ZZ b2;have HM:=ZZ hM;clear h h1 h2 b1 b2 hM
 go_enter Tryz.func141,Tryz.ntmps141
 go_wp2_with fail;refine(cmp_q M HM.out _ _ _ _ _ (H1.out.mono (ext2 _ _ _)) (H2.out.mono (ext2 _ _ _)) B1.out B2.out).mono ?_
 rintro e w3 ⟨rfl,k3⟩;have hrb:=row6 (al (ab _ (.cells #[.bool false,.slice none 0 0,.slice none 0 0,.bool false,.slice none 0 0,.slice none 0 0] 68)) k3)
 have hrz:w3.heap[w.heap.size+1]?=some (.cells #[.bool false,.slice none 0 0,.slice none 0 0,.bool false,.slice none 0 0,.slice none 0 0] 68 (0,0)):=by
  have q:=row6 k3
  simpa using q
 obtain⟨x0,x1,x2,x3,x4,x5,-⟩:=ah hrb;obtain⟨z0,z1,z2,z3,z4,z5,f0,f1,f2,f3,f4,f5⟩:=ah hrz;have HRZ:=ZZ hrz;have KW:=ZZ (al (ext2 _ _ _) k3);clear hrb hrz k3;generalize hcv:cmpQ lo hi=cv at *;have HCV:=ZZ hcv;clear hcv
 rcases(show 0<cv∨cv≤0 by omega) with hc|hc
 ·have HLT:=ZZ (show hi<lo by
   have h1:=(cmpQ_pos lo hi).1;have h2:=cmpQ_one lo hi;rw [HCV.out] at h1 h2;exact h1 (by omega))
  go_wp2_with fail;refine bodyPost_ret (v:=.agg #[.bool c2,.slice C m cc,.slice D n cd,.bool c1,.slice A k ca,.slice B l cb]) (by simp [results,Tryz.f141];go_simp) rfl ?_
  refine⟨_,rfl,?_,ae KW.out (Nat.le_succ _) _ _ _ _ _ _⟩;rw [show ar lo hi=(hi,lo) from if_pos HLT.out];exact⟨_,_,_,_,_,_,rfl,(H2.out.mono KW.out).put6 HRZ.out _ _ _ _ _ _,(H1.out.mono KW.out).put6 HRZ.out _ _ _ _ _ _⟩
 ·have HLT:=ZZ (show ¬ hi<lo from fun h=>by
   have h1:=(cmpQ_pos lo hi).2 h;rw [HCV.out] at h1
   omega)
  go_wp2_with fail;refine bodyPost_ret (v:=.agg #[.bool c1,.slice A k ca,.slice B l cb,.bool c2,.slice C m cc,.slice D n cd]) (by simp [results,Tryz.f141];go_simp) rfl ?_
  refine⟨_,rfl,?_,ae KW.out (Nat.le_succ _) _ _ _ _ _ _⟩;rw [show ar lo hi=(lo,hi) from if_neg HLT.out];exact⟨_,_,_,_,_,_,rfl,(H1.out.mono KW.out).put6 HRZ.out _ _ _ _ _ _,(H2.out.mono KW.out).put6 HRZ.out _ _ _ _ _ _⟩
end Go.Proofs.YtpgdefgdboijlaaGreatDoor
namespace Go.Proofs.YtpgdefgdboijlaaGreatDoor
open Go.RowKit
theorem neg_x (A B:Option Addr) (k ca l cb:Nat) (w:World):Calls Tryz.prog 47 #[.agg #[.bool true,.slice A k ca,.slice B l cb]] w fun e w'=>e=.returned (.agg #[.bool false,.slice A k ca,.slice B l cb])∧w'=(w.alloc (.cells #[.bool true,.slice A k ca,.slice B l cb] 25)).alloc (.cells #[.bool false,.slice A k ca,.slice B l cb] 25):=by
 go_enter Tryz.func47,Tryz.ntmps47
 go_wp2_with fail;refine bodyPost_ret (v:=.agg #[.bool false,.slice A k ca,.slice B l cb]) (by simp [results,Tryz.f47];go_simp) rfl ?_
 exact⟨rfl,rfl⟩
theorem neg_flip {w:World} {b:Bool} {vn vd:Value} {x:Rat} (h:Nm w (.agg #[.bool b,vn,vd]) x) (hx:x.num<0):Nm w (.agg #[.bool false,vn,vd]) (-x):=by
 obtain⟨vn',vd',e,h1,h2⟩:=h
 simp only [Value.agg.injEq,Array.mk.injEq,List.cons.injEq,Value.bool.injEq,and_true] at e
 obtain⟨-,rfl,rfl⟩:=e;exact Nm.flip h1 h2 (by rw [Rat.neg_num];symm;rw [decide_eq_false_iff_not];omega)
theorem pow_q2 (M:Nat) (hM:M≤17179869184) (vx:Value) (x:Rat) (w:World) (hx:Nm w vx x) (bx:Bq M x):Calls Tryz.prog 22 #[vx,.int .i64 2] w fun e w'=>∃v,e=.returned (.tuple #[v,.int .i64 0])∧Nm w' v (x*x)∧Ext w w':=by
 have h:=pow_q M hM 2 (by decide) vx x w hx bx;rw [show x ^ 2=x*x by rw [Rat.pow_succ,Rat.pow_one]] at h;exact h
theorem nm_bool {w:World} {b:Bool} {vn vd:Value} {x:Rat} (h:Nm w (.agg #[.bool b,vn,vd]) x):b=decide (x.num<0):=by
 obtain⟨vn',vd',e,h1,h2⟩:=h
 simp only [Value.agg.injEq,Array.mk.injEq,List.cons.injEq,Value.bool.injEq,and_true] at e
 exact e.1
def MidR (w:World) (q:Rat) (wx:World):Prop:=∃b A k c B l d,wx.heap[w.heap.size]?=some (.cells #[.bool false,.slice none 0 0,.slice none 0 0,.bool b,.slice A k c,.slice B l d] 68 (0,0))∧Nm wx (.agg #[.bool b,.slice A k c,.slice B l d]) q∧wx.heap[w.heap.size+1]?=some (.cells #[.bool false,.slice none 0 0,.slice none 0 0,.bool false,.slice none 0 0,.slice none 0 0] 68 (0,0))∧Ext w wx
theorem square_mid (M:Nat) (hM:M≤1073741824) (v:Value) (lo hi s1 s2:Rat) (w:World) (h:Sp w v lo hi) (b1:Bq M lo) (b2:Bq M hi) (hs:ar lo hi=(s1,s2)) (hn:s1.num.sign = -1) (hp:s2.num.sign=1) (bs1:Bq M s1) (bs2:Bq M s2):Calls Tryz.prog 75 #[v,.int .i64 2] w fun e w'=>∃v',e=.returned v'∧Sp w' v' (0*0) (aw (-s1) s2*aw (-s1) s2)∧Ext w w':=by
 obtain⟨c1,A,k,ca,B,l,cb,c2,C,m,cc,D,n,cd,rfl,h1,h2⟩:=h.form;have HSP:=ZZ h;have B1:=ZZ b1;have B2:=ZZ b2;have BS1:=ZZ bs1;have BS2:=ZZ bs2;have HS:=ZZ hs;have HN:=ZZ hn;have HP:=ZZ hp;have HM:=ZZ hM;clear h h1 h2 b1 b2 bs1 bs2 hs hn hp hM
 go_enter Tryz.func75,Tryz.ntmps75
 go_wp2_with fail;refine(sorted_c M (Nat.le_trans HM.out (by decide)) _ _ _ _ (HSP.out.mono (ext2 _ _ _)) B1.out B2.out).mono ?_
 rintro e w3 ⟨v3,rfl,h3,k3⟩;rw [HS.out] at h3;obtain⟨d1,A3,k3_,ca3,B3,l3,cb3,d2,C3,m3,cc3,D3,n3,cd3,rfl,hlo,hhi⟩:=h3.form
 obtain rfl:d1=true:=by
  rw [nm_bool hlo,decide_eq_true_eq]
  have:=HN.out
  exact Int.sign_eq_neg_one_iff_neg.1 this
 have hrb:=row6 (al (ab _ (.cells #[.bool false,.slice none 0 0,.slice none 0 0,.bool false,.slice none 0 0,.slice none 0 0] 68)) k3)
 have hrz:w3.heap[w.heap.size+1]?=some (.cells #[.bool false,.slice none 0 0,.slice none 0 0,.bool false,.slice none 0 0,.slice none 0 0] 68 (0,0)):=by
  have q:=row6 k3
  simpa using q
 obtain⟨x0,x1,x2,x3,x4,x5,f0,f1,f2,f3,f4,f5⟩:=ah hrb;have HLO:=ZZ hlo;have HHI:=ZZ hhi;have HRB:=ZZ hrb;have HRZ:=ZZ hrz;have KW:=ZZ (al (ext2 _ _ _) k3);clear h3 k3 hlo hhi hrb hrz;go_wp2_with fail;refine(sign_q' _ _ _ 1 HP.out (HHI.out.put6 HRB.out _ _ _ _ _ _)).mono ?_;rintro e w4 ⟨rfl,k4⟩;have hrb:=(k4.block _ (lt_of_block (af HRB.out _ _ _ _ _ _))).trans (af HRB.out (.bool true) (.slice A3 k3_ ca3) (.slice B3 l3 cb3) (.bool d2) (.slice C3 m3 cc3) (.slice D3 n3 cd3));have hrz:=(k4.block _ (lt_of_block (ag HRZ.out (by omega) _ _ _ _ _ _))).trans (ag HRZ.out (by omega) (.bool true) (.slice A3 k3_ ca3) (.slice B3 l3 cb3) (.bool d2) (.slice C3 m3 cc3) (.slice D3 n3 cd3));have HLO4:=ZZ ((HLO.out.put6 HRB.out _ _ _ _ _ _).mono k4);have HHI4:=ZZ ((HHI.out.put6 HRB.out _ _ _ _ _ _).mono k4);have KW4:=ZZ (al (ae KW.out (Nat.le_refl _) _ _ _ _ _ _) k4);clear x0 x1 x2 x3 x4 x5 f0 f1 f2 f3 f4 f5;obtain⟨x0,x1,x2,x3,x4,x5,f0,f1,f2,f3,f4,f5⟩:=ah hrb;have HRB4:=ZZ hrb;have HRZ4:=ZZ hrz;clear hrb hrz k4;have hmm:min (max (2:Int) 0) 64=2:=by decide
 go_wp2_with fail;refine(sign_q' _ _ _ (-1) HN.out HLO4.out).mono ?_
 rintro e w5 ⟨rfl,k5⟩;have hrb:=(k5.block _ (lt_of_block HRB4.out)).trans HRB4.out;have hrz:=(k5.block _ (lt_of_block HRZ4.out)).trans HRZ4.out;have HLO5:=ZZ (HLO4.out.mono k5);have HHI5:=ZZ (HHI4.out.mono k5);have KW5:=ZZ (al KW4.out k5);clear x0 x1 x2 x3 x4 x5 f0 f1 f2 f3 f4 f5;obtain⟨x0,x1,x2,x3,x4,x5,f0,f1,f2,f3,f4,f5⟩:=ah hrb;have HRB5:=ZZ hrb;have HRZ5:=ZZ hrz;clear hrb hrz k5
 go_upto_region 6 with (fail)
 go_cut [1] (fun nn wx=>nn=.int .i64 2∧MidR w (aw (-s1) s2) wx)
 case first=>
  have hlt5:w.heap.size<w5.heap.size:=lt_of_block HRB5.out;have hlt6:w.heap.size<w5.heap.size+1:=by omega
  have HNG:=ZZ (Int.sign_eq_neg_one_iff_neg.1 HN.out);have HNX:=ZZ (neg_flip HLO5.out HNG.out)
  go_region_with (first
   |(go_at_call 47
     refine(neg_x _ _ _ _ _ _ _).mono ?_;rintro e w6 ⟨rfl,rfl⟩)
   |(go_at_call 61
     refine(max_q M (Nat.le_trans HM.out (by decide)) _ _ (-s1) s2 _ (HNX.out.mono ?_) (HHI5.out.mono ?_) BS1.out.neg BS2.out).mono ?_
     ·repeat (with_reducible first|exact ad _|refine al ?_ (ab _ _)|refine al ?_ (ac _))
     ·repeat (with_reducible first|exact ad _|refine al ?_ (ab _ _)|refine al ?_ (ac _))
     rintro e w7 ⟨v7,rfl,h7,k7⟩;obtain⟨b7,P7,p7,c7,Q7,q7,d7,rfl⟩:=h7.form2
     have k8:Hid (Ext w5 w7):=by
      refine al ?_ k7
      repeat (with_reducible first|exact ad _|refine al ?_ (ab _ _)|refine al ?_ (ac _))
     have hrb:=(k8.out.block _ (lt_of_block HRB5.out)).trans HRB5.out;have hrz:=(k8.out.block _ (lt_of_block HRZ5.out)).trans HRZ5.out;obtain⟨y0,y1,y2,y3,y4,y5,g0,g1,g2,g3,g4,g5⟩:=ah hrb;have H7:=ZZ h7;have HRB7:=ZZ hrb;have HRZ7:=ZZ hrz;clear h7 k7 hrb hrz))
  all_goals
   go_wp2_with fail;go_meet
   exact⟨rfl,b7,P7,p7,c7,Q7,q7,d7,af HRB7.out _ _ _ _ _ _,H7.out.put6 HRB7.out _ _ _ _ _ _,ag HRZ7.out (by omega) _ _ _ _ _ _,ae (al KW5.out k8.out) (Nat.le_refl _) _ _ _ _ _ _⟩
 case rest=>
  obtain⟨rfl,b7,P7,p7,c7,Q7,q7,d7,hrb,hh,hrz,hex⟩:=hcut;have BQ:=ZZ (show Bq M (aw (-s1) s2) by unfold aw;split;exact BS2.out;exact BS1.out.neg);have HH:=ZZ hh;have HEX:=ZZ hex;have HRB:=ZZ hrb;have HRZ:=ZZ hrz;clear x0 x1 x2 x3 x4 x5 f0 f1 f2 f3 f4 f5;obtain⟨x0,x1,x2,x3,x4,x5,f0,f1,f2,f3,f4,f5⟩:=ah hrb;clear hh hex hrb hrz;go_wp2_with fail;refine(pow_q2 1 (by decide) _ 0 _ (Nm.zero _) (bq_zero 1 (by decide))).mono ?_;rintro e w8 ⟨v8,rfl,h8,k8⟩;obtain⟨b8,P8,p8,c8,Q8,q8,d8,rfl⟩:=h8.form2;have hrb:=(k8.block _ (lt_of_block HRB.out)).trans HRB.out;have hrz:=(k8.block _ (lt_of_block HRZ.out)).trans HRZ.out;have hl0:=lt_of_block hrb;clear x0 x1 x2 x3 x4 x5 f0 f1 f2 f3 f4 f5;obtain⟨x0,x1,x2,x3,x4,x5,f0,f1,f2,f3,f4,f5⟩:=ah hrb;have H8:=ZZ h8;have K8:=ZZ k8;have HRZ8:=ZZ hrz;clear h8 k8 hrb hrz;go_wp2_with fail;refine(pow_q2 M (Nat.le_trans HM.out (by decide)) _ (aw (-s1) s2) _ (HH.out.mono (al K8.out (ab _ _))) BQ.out).mono ?_;rintro e w9 ⟨v9,rfl,h9,k9⟩;obtain⟨b9,P9,p9,c9,Q9,q9,d9,rfl⟩:=h9.form2;have hx8:=row3 k9;obtain⟨y0,y1,y2,-⟩:=ai hx8;have hl8:=lt_of_block hx8;have hrz:=((al (ab _ _) k9).block _ (lt_of_block HRZ8.out)).trans HRZ8.out;have hl9:=lt_of_block hrz;clear x0 x1 x2 x3 x4 x5 f0 f1 f2 f3 f4 f5;obtain⟨z0,z1,z2,z3,z4,z5,f0,f1,f2,f3,f4,f5⟩:=ah hrz;have H9:=ZZ h9;have K9:=ZZ (al (ab _ _) k9);have HRZ9:=ZZ ((((ab w9 (.cells #[.bool b9,.slice P9 p9 c9,.slice Q9 q9 d9] 25)).block _ (lt_of_block hrz))).trans hrz);clear h9 k9 hrz hx8
  have Y0:=(aq (ab w9 (.cells #[.bool b9,.slice P9 p9 c9,.slice Q9 q9 d9] 25)) y0);have Y1:=(aq (ab w9 (.cells #[.bool b9,.slice P9 p9 c9,.slice Q9 q9 d9] 25)) y1);have Y2:=(aq (ab w9 (.cells #[.bool b9,.slice P9 p9 c9,.slice Q9 q9 d9] 25)) y2);obtain⟨Z0,Z1,Z2,Z3,Z4,Z5,F0,F1,F2,F3,F4,F5⟩:=ah HRZ9.out;clear y0 y1 y2 z0 z1 z2 z3 z4 z5 f0 f1 f2 f3 f4 f5 hl8 hl9 hl0;generalize w8.heap.size=a8 at *;go_wp2_with fail;refine bodyPost_ret (v:=.agg #[.bool b8,.slice P8 p8 c8,.slice Q8 q8 d8,.bool b9,.slice P9 p9 c9,.slice Q9 q9 d9]) (by simp [results,Tryz.f75];go_simp) rfl ?_;refine⟨_,rfl,?_,ae (al HEX.out (al K8.out (al K9.out (ab _ _)))) (Nat.le_succ _) _ _ _ _ _ _⟩;exact⟨_,_,_,_,_,_,rfl,(H8.out.mono (al K9.out (ab _ _))).put6 HRZ9.out _ _ _ _ _ _,(H9.out.mono (ab _ _)).put6 HRZ9.out _ _ _ _ _ _⟩
end Go.Proofs.YtpgdefgdboijlaaGreatDoor
namespace Go.Proofs.YtpgdefgdboijlaaGreatDoor
def Btw (a b y:Rat):Prop:=(a≤y∧y≤b)∨(b≤y∧y≤a)
def InS (s:Rat × Rat) (y:Rat):Prop:=s.1≤y∧y≤s.2
theorem in_sort {a b y:Rat}:InS (ar a b) y↔Btw a b y:=by
 unfold InS ar Btw
 split <;> dsimp only <;> grind
def joinQ (s t:Rat × Rat):Rat × Rat:=(av s.1 t.1,aw s.2 t.2)
def mulS (a b c d:Rat):Rat × Rat:=joinQ (ar (a*c) (a*d)) (ar (b*c) (b*d))
theorem btw_left (a b:Rat):Btw a b a:=by unfold Btw;grind
theorem btw_right (a b:Rat):Btw a b b:=by unfold Btw;grind
theorem sort_ends (a b:Rat):((ar a b).1=a∧(ar a b).2=b)∨((ar a b).1=b∧(ar a b).2=a):=by
 unfold ar;split
 ·exact .inr ⟨rfl,rfl⟩
 ·exact .inl ⟨rfl,rfl⟩
def negS (a b:Rat):Rat × Rat:=ar (-b) (-a)
theorem sort_le (a b:Rat):(ar a b).1≤(ar a b).2:=by unfold ar;split <;> dsimp only <;> grind
theorem sort_sorted {a b:Rat} (h:a≤b):ar a b=(a,b):=by unfold ar;rw [if_neg (Rat.not_lt.2 h)]
theorem sort_twice (a b:Rat):ar (ar a b).1 (ar a b).2=ar a b:=sort_sorted (sort_le a b)
theorem pow_mono {a b:Rat} (h0:0≤a) (h:a≤b) (n:Nat):0≤a ^ n∧a ^ n≤b ^ n:=by
 induction n with
 | zero=>rw [Rat.pow_zero,Rat.pow_zero];exact⟨by decide,Rat.le_refl⟩
 | succ n ih=>
  rw [Rat.pow_succ,Rat.pow_succ];have hb:0≤b:=by grind
  refine⟨Rat.mul_nonneg ih.1 h0,?_⟩;have h1:=Rat.mul_le_mul_of_nonneg_right ih.2 h0;have h2:=Rat.mul_le_mul_of_nonneg_left h (show 0≤b ^ n by grind)
  grind
theorem pow_neg (a:Rat) (n:Nat):(-a) ^ n=if n % 2=0 then a ^ n else -(a ^ n):=by
 induction n with
 | zero=>simp [Rat.pow_zero]
 | succ n ih=>
  rw [Rat.pow_succ,Rat.pow_succ,ih]
  rcases Nat.mod_two_eq_zero_or_one n with h|h
  ·rw [if_pos h,if_neg (by omega)];grind
  ·rw [if_neg (by omega),if_pos (by omega)];grind
def flipE (s:Rat × Rat) (n:Nat):Rat × Rat:=if n % 2=0∧s.2≤0 then (-s.2,-s.1) else s
def powE (s:Rat × Rat) (n:Nat):Rat × Rat:=
 if 0<n∧n % 2=0∧(flipE s n).1<0 then (0,aw (-(flipE s n).1) (flipE s n).2) else flipE s n
def powS (s:Rat × Rat) (n:Nat):Rat × Rat:=((powE s n).1 ^ n,(powE s n).2 ^ n)
theorem pow_even {a:Rat} {n:Nat} (h:n % 2=0):(-a) ^ n=a ^ n:=by rw [pow_neg,if_pos h]
end Go.Proofs.YtpgdefgdboijlaaGreatDoor
namespace Go.Proofs.YtpgdefgdboijlaaGreatDoor
open Go.RowKit
theorem ends_sort (a b:Rat):av a b=(ar a b).1∧aw a b=(ar a b).2:=by
 unfold av aw ar
 by_cases h:b<a
 ·have h':¬ a<b:=by grind
  simp [h,h']
 ·by_cases h':a<b
  ·simp [h,h']
  ·have e:a=b:=by grind
   subst e;simp
def hullF (s:Rat × Rat) (l:List Rat):Rat × Rat:=l.foldl (fun s x=>(av s.1 x,aw s.2 x)) s
theorem hullF_snoc (s:Rat × Rat) (l:List Rat) (x:Rat):hullF s (l ++ [x])=(av (hullF s l).1 x,aw (hullF s l).2 x):=by
 unfold hullF;rw [List.foldl_append];rfl
theorem min_alt (a b:Rat):(av a b≤a∧av a b≤b)∧(av a b=a∨av a b=b):=by
 unfold av;split <;> grind
theorem max_alt (a b:Rat):(a≤aw a b∧b≤aw a b)∧(aw a b=a∨aw a b=b):=by
 unfold aw;split <;> grind
theorem min_comm (a b:Rat):av a b=av b a:=by have:=min_alt a b;have:=min_alt b a;grind
theorem max_comm (a b:Rat):aw a b=aw b a:=by have:=max_alt a b;have:=max_alt b a;grind
theorem min_assoc (a b c:Rat):av (av a b) c=av a (av b c):=by
 have:=min_alt a b;have:=min_alt b c;have:=min_alt (av a b) c;have:=min_alt a (av b c);grind
theorem max_assoc (a b c:Rat):aw (aw a b) c=aw a (aw b c):=by
 have:=max_alt a b;have:=max_alt b c;have:=max_alt (aw a b) c;have:=max_alt a (aw b c);grind
theorem hull_join (a b c d:Rat):hullF (a,a) [b,c,d]=joinQ (ar a b) (ar c d):=by
 unfold joinQ;rw [←(ends_sort a b).1,←(ends_sort a b).2,←(ends_sort c d).1,←(ends_sort c d).2,←min_assoc,←max_assoc]
 rfl
theorem hull_mul (a b c d:Rat):hullF (a*c,a*c) [a*d,b*c,b*d]=mulS a b c d:=by
 unfold mulS;exact hull_join _ _ _ _
theorem sort_comm (a b:Rat):ar a b=ar b a:=by
 have e1:=ends_sort a b;have e2:=ends_sort b a;refine Prod.ext ?_ ?_
 ·rw [←e1.1,←e2.1,min_comm]
 ·rw [←e1.2,←e2.2,max_comm]
theorem mulS_swap (a b c d:Rat):mulS a b c d=mulS a b d c:=by
 unfold mulS;rw [sort_comm (a*c) (a*d),sort_comm (b*c) (b*d)]
theorem negS_sort (a b:Rat):negS a b=(-(ar a b).2,-(ar a b).1):=by
 unfold negS ar
 rcases rat_tri a b with h|h|h
 ·rw [if_neg (by grind),if_neg (by grind)]
 ·subst h;rw [if_neg (by grind),if_neg (by grind)]
 ·rw [if_pos (by grind),if_pos h]
theorem hull2 (a b:Rat):hullF (a,a) [b]=ar a b:=by
 refine Prod.ext ?_ ?_
 ·exact(ends_sort a b).1
 ·exact(ends_sort a b).2
theorem hull3 (a b c:Rat):hullF (a,a) [b,c]=(av (ar a b).1 c,aw (ar a b).2 c):=by
 rw [show [b,c]=[b] ++ [c] from rfl,hullF_snoc,hull2]
theorem sort_pow (lo hi:Rat) (n:Nat):ar (lo ^ n) (hi ^ n)=ar ((ar lo hi).1 ^ n) ((ar lo hi).2 ^ n):=by
 rcases sort_ends lo hi with ⟨h1,h2⟩|⟨h1,h2⟩
 ·rw [h1,h2]
 ·rw [h1,h2,sort_comm]
theorem sort_eq {a b:Rat} (h:a≤b):ar a b=(a,b):=sort_sorted h
theorem odd_mono {n:Nat} (h:n % 2=1) {p q:Rat} (hpq:p≤q):p ^ n≤q ^ n:=by
 have hne:¬ n % 2=0:=by omega
 have hn:∀r:Rat,(-r) ^ n = -(r ^ n):=fun r=>by rw [pow_neg,if_neg hne]
 rcases @Rat.le_total 0 p with hp|hp
 ·exact(pow_mono hp hpq n).2
 ·rcases @Rat.le_total 0 q with hq|hq
  ·have a1:=(pow_mono hq Rat.le_refl n).1
   have a2:=(pow_mono (show 0≤-p by grind) Rat.le_refl n).1
   have:=hn p
   grind
  ·have a1:=(pow_mono (show 0≤-q by grind) (show -q≤-p by grind) n).2
   have:=hn p
   have:=hn q
   grind
theorem zero_pow' {n:Nat} (h:0<n):(0:Rat) ^ n=0:=by
 obtain⟨k,rfl⟩:∃k,n=k+1:=⟨n - 1,by omega⟩;rw [Rat.pow_succ,Rat.mul_zero]
theorem hull_pow_at {a b:Rat} (hab:a≤b) (n:Nat):powS (a,b) n=if 0<n∧a≤0∧0≤b then (av (ar (a ^ n) (b ^ n)).1 0,aw (ar (a ^ n) (b ^ n)).2 0) else ar (a ^ n) (b ^ n):=by
 rcases Nat.eq_zero_or_pos n with h0|h0
 ·subst h0
  rw [if_neg (fun h=>absurd h.1 (by omega))];unfold powS;rw [Rat.pow_zero,Rat.pow_zero,Rat.pow_zero,Rat.pow_zero,sort_eq Rat.le_refl]
 rcases Nat.mod_two_eq_zero_or_one n with he|he
 ·unfold powS powE
  by_cases hb:b≤0
  ·have e:flipE (a,b) n=(-b,-a):=by unfold flipE;rw [if_pos ⟨he,hb⟩]
   rw [e]
   dsimp only
   rw [if_neg (by grind)]
   dsimp only
   rw [pow_even he,pow_even he];have m:=(pow_mono (show 0≤-b by grind) (show -b≤-a by grind) n);rw [pow_even he,pow_even he] at m;have s:ar (a ^ n) (b ^ n)=(b ^ n,a ^ n):=by rw [sort_comm];exact sort_eq m.2
   rw [s]
   split
   ·rename_i h
    obtain rfl:b=0:=by grind
    rw [zero_pow' h0] at m ⊢
    have:=min_alt 0 (0:Rat);have:=max_alt (a ^ n) 0
    refine Prod.ext ?_ ?_ <;> dsimp only <;> grind
   ·rfl
  ·have e:flipE (a,b) n=(a,b):=by unfold flipE;rw [if_neg (fun h=>hb h.2)]
   rw [e]
   dsimp only
   have mb:=(pow_mono (show (0:Rat)≤0 from Rat.le_refl) (show (0:Rat)≤b by grind) n);rw [zero_pow' h0] at mb
   by_cases ha:a<0
   ·rw [if_pos ⟨h0,he,ha⟩,if_pos ⟨h0,by grind,by grind⟩]
    dsimp only
    rw [zero_pow' h0];have ma:=(pow_mono (show (0:Rat)≤0 from Rat.le_refl) (show (0:Rat)≤-a by grind) n);rw [zero_pow' h0,pow_even he] at ma
    have mx:(aw (-a) b) ^ n=aw (a ^ n) (b ^ n):=by
     rcases(max_alt (-a) b) with ⟨⟨u1,u2⟩,u3⟩
     rcases(max_alt (a ^ n) (b ^ n)) with ⟨⟨v1,v2⟩,v3⟩
     rcases u3 with u3|u3
     ·rw [u3,pow_even he]
      rw [u3] at u2
      have:=(pow_mono (show (0:Rat)≤b by grind) u2 n).2
      rw [pow_even he] at this
      grind
     ·rw [u3]
      rw [u3] at u1
      have:=(pow_mono (show (0:Rat)≤-a by grind) u1 n).2
      rw [pow_even he] at this
      grind
    rw [mx,←(ends_sort (a ^ n) (b ^ n)).1,←(ends_sort (a ^ n) (b ^ n)).2];have k1:=min_alt (a ^ n) (b ^ n);have k2:=max_alt (a ^ n) (b ^ n);have k3:=min_alt (av (a ^ n) (b ^ n)) 0;have k4:=max_alt (aw (a ^ n) (b ^ n)) 0;refine Prod.ext ?_ ?_ <;> dsimp only <;> grind
   ·rw [if_neg (fun h=>ha h.2.2)]
    dsimp only
    have m:=(pow_mono (show (0:Rat)≤a by grind) hab n);rw [sort_eq m.2]
    split
    ·rename_i h
     obtain rfl:a=0:=by grind
     rw [zero_pow' h0] at m ⊢
     have:=min_alt 0 (0:Rat);have:=max_alt (b ^ n) 0
     refine Prod.ext ?_ ?_ <;> dsimp only <;> grind
    ·rfl
 ·have hne:¬ n % 2=0:=by omega
  have e:powE (a,b) n=(a,b):=by
   unfold powE flipE;rw [if_neg (fun h=>hne h.2.1),if_neg (fun h=>hne h.1)]
  unfold powS;rw [e]
  dsimp only
  have m:=odd_mono he hab;rw [sort_eq m]
  split
  ·rename_i h
   have m1:=odd_mono he h.2.1;have m2:=odd_mono he h.2.2;rw [zero_pow' h0] at m1 m2
   have:=min_alt (a ^ n) 0;have:=max_alt (b ^ n) 0
   refine Prod.ext ?_ ?_ <;> dsimp only <;> grind
  ·rfl
def has0 (lo hi:Rat):Prop:=(ar lo hi).1≤0∧0≤(ar lo hi).2
theorem hull_pow_yes {lo hi:Rat} {n:Nat} (h0:0<n) (h:has0 lo hi):hullF (lo ^ n,lo ^ n) [hi ^ n,0]=powS (ar lo hi) n:=by
 rw [hull3,sort_pow]
 have:=hull_pow_at (sort_le lo hi) n
 rw [if_pos ⟨h0,h⟩] at this;exact this.symm
theorem hull_pow_no {lo hi:Rat} {n:Nat} (h:¬(0<n∧has0 lo hi)):hullF (lo ^ n,lo ^ n) [hi ^ n]=powS (ar lo hi) n:=by
 rw [hull2,sort_pow]
 have:=hull_pow_at (sort_le lo hi) n
 have h':¬(0<n∧(ar lo hi).1≤0∧0≤(ar lo hi).2):=h;rw [if_neg h'] at this;exact this.symm
end Go.Proofs.YtpgdefgdboijlaaGreatDoor
