/- Spans of the reference: sums, differences, common parts. Printed by gen_sh.py. -/
import Derived.Test.YtjamgccgoapbeaaGreatDoorGYz
set_option linter.unusedVariables false
set_option maxRecDepth 100000
set_option maxHeartbeats 64000000
namespace Go.Proofs.YtjamgccgoapbeaaGreatDoor
open Go.RowKit
theorem c12_of {W:World} {g k:Nat} {a0 a1 a2 a3 a4 a5 b0 b1 b2 b3 b4 b5:Value} {T T':TypeId} (h:W.heap[g]?=some (.cells #[a0,a1,a2,a3,a4,a5] T (0,0))) (h':W.heap[k]?=some (.cells #[b0,b1,b2,b3,b4,b5] T' (0,0))):W.cell? ⟨g,0,none⟩=some (a0)∧W.cell? ⟨g,1,none⟩=some (a1)∧W.cell? ⟨g,2,none⟩=some (a2)∧W.cell? ⟨g,3,none⟩=some (a3)∧W.cell? ⟨g,4,none⟩=some (a4)∧W.cell? ⟨g,5,none⟩=some (a5)∧W.cell? ⟨k,0,none⟩=some (b0)∧W.cell? ⟨k,1,none⟩=some (b1)∧W.cell? ⟨k,2,none⟩=some (b2)∧W.cell? ⟨k,3,none⟩=some (b3)∧W.cell? ⟨k,4,none⟩=some (b4)∧W.cell? ⟨k,5,none⟩=some (b5):=by
 obtain⟨p0,p1,p2,p3,p4,p5⟩:=c6_of h;obtain⟨q0,q1,q2,q3,q4,q5⟩:=c6_of h';exact⟨p0,p1,p2,p3,p4,p5,q0,q1,q2,q3,q4,q5⟩
theorem c12_put {W:World} {g k m:Nat} {a0 a1 a2 a3 a4 a5 b0 b1 b2 b3 b4 b5:Value} {T T':TypeId} (h:W.heap[g]?=some (.cells #[a0,a1,a2,a3,a4,a5] T (0,0))) (h':W.heap[k]?=some (.cells #[b0,b1,b2,b3,b4,b5] T' (0,0))) (hne:g≠m) (hne':k≠m) (x0 x1 x2 y0 y1 y2:Value):((((((W.setCell ⟨m,0,none⟩ (x0)).setCell ⟨m,1,none⟩ (x1)).setCell ⟨m,2,none⟩ (x2)).setCell ⟨m,3,none⟩ (y0)).setCell ⟨m,4,none⟩ (y1)).setCell ⟨m,5,none⟩ (y2)).cell? ⟨g,0,none⟩=some (a0)∧((((((W.setCell ⟨m,0,none⟩ (x0)).setCell ⟨m,1,none⟩ (x1)).setCell ⟨m,2,none⟩ (x2)).setCell ⟨m,3,none⟩ (y0)).setCell ⟨m,4,none⟩ (y1)).setCell ⟨m,5,none⟩ (y2)).cell? ⟨g,1,none⟩=some (a1)∧((((((W.setCell ⟨m,0,none⟩ (x0)).setCell ⟨m,1,none⟩ (x1)).setCell ⟨m,2,none⟩ (x2)).setCell ⟨m,3,none⟩ (y0)).setCell ⟨m,4,none⟩ (y1)).setCell ⟨m,5,none⟩ (y2)).cell? ⟨g,2,none⟩=some (a2)∧((((((W.setCell ⟨m,0,none⟩ (x0)).setCell ⟨m,1,none⟩ (x1)).setCell ⟨m,2,none⟩ (x2)).setCell ⟨m,3,none⟩ (y0)).setCell ⟨m,4,none⟩ (y1)).setCell ⟨m,5,none⟩ (y2)).cell? ⟨g,3,none⟩=some (a3)∧((((((W.setCell ⟨m,0,none⟩ (x0)).setCell ⟨m,1,none⟩ (x1)).setCell ⟨m,2,none⟩ (x2)).setCell ⟨m,3,none⟩ (y0)).setCell ⟨m,4,none⟩ (y1)).setCell ⟨m,5,none⟩ (y2)).cell? ⟨g,4,none⟩=some (a4)∧((((((W.setCell ⟨m,0,none⟩ (x0)).setCell ⟨m,1,none⟩ (x1)).setCell ⟨m,2,none⟩ (x2)).setCell ⟨m,3,none⟩ (y0)).setCell ⟨m,4,none⟩ (y1)).setCell ⟨m,5,none⟩ (y2)).cell? ⟨g,5,none⟩=some (a5)∧((((((W.setCell ⟨m,0,none⟩ (x0)).setCell ⟨m,1,none⟩ (x1)).setCell ⟨m,2,none⟩ (x2)).setCell ⟨m,3,none⟩ (y0)).setCell ⟨m,4,none⟩ (y1)).setCell ⟨m,5,none⟩ (y2)).cell? ⟨k,0,none⟩=some (b0)∧((((((W.setCell ⟨m,0,none⟩ (x0)).setCell ⟨m,1,none⟩ (x1)).setCell ⟨m,2,none⟩ (x2)).setCell ⟨m,3,none⟩ (y0)).setCell ⟨m,4,none⟩ (y1)).setCell ⟨m,5,none⟩ (y2)).cell? ⟨k,1,none⟩=some (b1)∧((((((W.setCell ⟨m,0,none⟩ (x0)).setCell ⟨m,1,none⟩ (x1)).setCell ⟨m,2,none⟩ (x2)).setCell ⟨m,3,none⟩ (y0)).setCell ⟨m,4,none⟩ (y1)).setCell ⟨m,5,none⟩ (y2)).cell? ⟨k,2,none⟩=some (b2)∧((((((W.setCell ⟨m,0,none⟩ (x0)).setCell ⟨m,1,none⟩ (x1)).setCell ⟨m,2,none⟩ (x2)).setCell ⟨m,3,none⟩ (y0)).setCell ⟨m,4,none⟩ (y1)).setCell ⟨m,5,none⟩ (y2)).cell? ⟨k,3,none⟩=some (b3)∧((((((W.setCell ⟨m,0,none⟩ (x0)).setCell ⟨m,1,none⟩ (x1)).setCell ⟨m,2,none⟩ (x2)).setCell ⟨m,3,none⟩ (y0)).setCell ⟨m,4,none⟩ (y1)).setCell ⟨m,5,none⟩ (y2)).cell? ⟨k,4,none⟩=some (b4)∧((((((W.setCell ⟨m,0,none⟩ (x0)).setCell ⟨m,1,none⟩ (x1)).setCell ⟨m,2,none⟩ (x2)).setCell ⟨m,3,none⟩ (y0)).setCell ⟨m,4,none⟩ (y1)).setCell ⟨m,5,none⟩ (y2)).cell? ⟨k,5,none⟩=some (b5):=
 c12_of (ah h hne x0 x1 x2 y0 y1 y2) (ah h' hne' x0 x1 x2 y0 y1 y2)
noncomputable def onlyW (w:World) (C:Nat→Prop):World:={ w with heap:=w.heap.mapIdx fun b o=>@ite _ (C b) (Classical.propDecidable _) o (.cells #[] 0) }
theorem onlyW_on {w:World} {C:Nat→Prop} {b:Nat} (h:C b):(onlyW w C).heap[b]?=w.heap[b]?:=by
 show (w.heap.mapIdx _)[b]?=_
 rw [Array.getElem?_mapIdx]
 cases w.heap[b]? with
 | none=>rfl
 | some o=>simp [h]
theorem onlyW_off {w:World} {C:Nat→Prop} {b o:Nat} {v:Value} (h:(onlyW w C).cell? ⟨b,o,none⟩=some v):C b:=by
 by_cases hc:C b
 ·exact hc
 ·exfalso
  have h1:(onlyW w C).heap[b]?=(w.heap[b]?).map fun _=>Obj.cells #[] 0:=by
   show (w.heap.mapIdx _)[b]?=_
   rw [Array.getElem?_mapIdx]
   cases w.heap[b]? with
   | none=>rfl
   | some o=>simp [hc]
  simp only [World.cell?,h1] at h
  cases hb:w.heap[b]? with
  | none=>rw [hb] at h;simp at h
  | some o=>rw [hb] at h;simp at h
theorem Wr.keepC' {W W':World} {v:Value} {n:Nat} {C:Nat→Prop} (h:Wr W v n) (hb:BlC C v) (hk:∀b,C b→W'.heap[b]?=W.heap[b]?):Wr W' v n:=by
 obtain⟨A,cc,e,hc,hcl⟩:=h;refine⟨A,cc,e,hc,?_⟩
 rcases hcl with h0|⟨b,o,hA,hce⟩
 ·exact .inl h0
 ·refine .inr ⟨b,o,hA,fun j hj=>?_⟩
  rw [←hce j hj];exact World.cell?_of_block (hk b (hb ⟨b,o,none⟩ _ cc (by rw [e,hA]) (by simp at hj;omega)))
theorem Nr.keepC' {W W':World} {v:Value} {q:Rat} {C:Nat→Prop} (h:Nr W v q) (hb:BlN C v) (hk:∀b,C b→W'.heap[b]?=W.heap[b]?):Nr W' v q:=by
 obtain⟨s,vt,vb,e,hs,h1,h2⟩:=h;obtain⟨A,c,e1,-,-⟩:=id h1;obtain⟨A',c',e2,-,-⟩:=id h2;obtain⟨f1,f2⟩:=hb s A _ c A' _ c' (by rw [e,e1,e2]);exact⟨s,vt,vb,e,hs,h1.keepC' (by rw [e1];exact f1) hk,h2.keepC' (by rw [e2];exact f2) hk⟩
theorem blc_only {w:World} {C:Nat→Prop} {v:Value} {n:Nat} (h:Wr (onlyW w C) v n):BlC C v:=by
 rintro a k c e h0;obtain⟨A,cc,e1,hc,hcl⟩:=h;rw [e1] at e
 injection e with ea ek ec
 rcases hcl with h1|⟨b,o,hA,hce⟩
 ·rw [←ek] at h0
  simp at h1
  rw [h1] at h0
  cases h0
 ·rw [hA] at ea
  injection ea with ea
  rw [←ea];exact onlyW_off (hce 0 (by simp;omega))
theorem bln_only {w:World} {C:Nat→Prop} {v:Value} {q:Rat} (h:Nr (onlyW w C) v q):BlN C v:=by
 obtain⟨s,vt,vb,e,hs,h1,h2⟩:=h;intro s1 A1 k1 c1 A2 l2 d2 e';rw [e] at e'
 simp only [Value.agg.injEq,Array.mk.injEq,List.cons.injEq] at e'
 obtain⟨-,rfl,rfl,-⟩:=e';exact⟨blc_only h1,blc_only h2⟩
def SpBl (C:Nat→Prop) (v:Value):Prop:=∀x0 x1 x2 y0 y1 y2,v=.agg #[x0,x1,x2,y0,y1,y2]→BlN C (.agg #[x0,x1,x2])∧BlN C (.agg #[y0,y1,y2])
theorem spbl_mk {C:Nat→Prop} {x0 x1 x2 y0 y1 y2:Value} (h1:BlN C (.agg #[x0,x1,x2])) (h2:BlN C (.agg #[y0,y1,y2])):SpBl C (.agg #[x0,x1,x2,y0,y1,y2]):=by
 intro a0 a1 a2 b0 b1 b2 e
 simp only [Value.agg.injEq,Array.mk.injEq,List.cons.injEq] at e
 obtain⟨rfl,rfl,rfl,rfl,rfl,rfl,-⟩:=e;exact⟨h1,h2⟩
theorem spbl_only {w:World} {C:Nat→Prop} {v:Value} {lo hi:Rat} (h:SpR (onlyW w C) v lo hi):SpBl C v:=by
 obtain⟨x0,x1,x2,y0,y1,y2,rfl,h1,h2⟩:=h;exact spbl_mk (bln_only h1) (bln_only h2)
theorem SpR.keepC {W W':World} {v:Value} {lo hi:Rat} {C:Nat→Prop} (h:SpR W v lo hi) (hb:SpBl C v) (hk:∀b,C b→W'.heap[b]?=W.heap[b]?):SpR W' v lo hi:=by
 obtain⟨x0,x1,x2,y0,y1,y2,rfl,h1,h2⟩:=h;obtain⟨b1,b2⟩:=hb _ _ _ _ _ _ rfl;exact⟨x0,x1,x2,y0,y1,y2,rfl,h1.keepC' b1 hk,h2.keepC' b2 hk⟩
theorem spbl_sem {w:World} {C:Nat→Prop} {v v':Value} {lo hi lo' hi':Rat} (h:SpR w v lo hi) (hs:∀W,SpR W v lo hi→SpR W v' lo' hi') (hb:SpBl C v):SpBl C v':=
 spbl_only (hs (onlyW w C) (h.keepC hb fun b hc=>onlyW_on hc))
def SpC (w:World) (va vb v:Value):Prop:=∀C:Nat→Prop,(∀b,w.heap.size≤b→C b)→SpBl C va→SpBl C vb→SpBl C v
theorem add_spf (M:Nat) (hM:M≤134217728) (va vb:Value) (qa qb qc qd:Rat) (w:World) (ha:SpR w va qa qb) (hb:SpR w vb qc qd) (ba1:Bq M qa) (ba2:Bq M qb) (bb1:Bq M qc) (bb2:Bq M qd):Calls Tryz.prog 93 #[va,vb] w fun e w'=>∃v,e=.returned v∧SpR w' v ((au qa qb).1+(au qc qd).1) ((au qa qb).2+(au qc qd).2)∧Ext w w'∧SpC w va vb v:=by
 obtain⟨s1,A1,k1,ca1,B1,l1,cb1,s2,A2,k2,ca2,B2,l2,cb2,rfl⟩:=ha.form2;obtain⟨s3,A3,k3,ca3,B3,l3,cb3,s4,A4,k4,ca4,B4,l4,cb4,rfl⟩:=hb.form2;have HA:=ZZ ha;have HB:=ZZ hb;have BA1:=ZZ ba1;have BA2:=ZZ ba2;have BB1:=ZZ bb1;have BB2:=ZZ bb2;have HM:=ZZ hM;obtain⟨hw0,hra,hrb,hrz⟩:=setG3 w (.cells #[.int .i64 s1,.slice A1 k1 ca1,.slice B1 l1 cb1,.int .i64 s2,.slice A2 k2 ca2,.slice B2 l2 cb2] 64) (.cells #[.int .i64 s3,.slice A3 k3 ca3,.slice B3 l3 cb3,.int .i64 s4,.slice A4 k4 ca4,.slice B4 l4 cb4] 64) (.cells #[.int .i64 0,.slice none 0 0,.slice none 0 0,.int .i64 0,.slice none 0 0,.slice none 0 0] 64);have hww:=ZZ hw0;have RA:=ZZ hra;have RB:=ZZ hrb;have RZ:=ZZ hrz;clear ha hb ba1 ba2 bb1 bb2 hM hw0 hra hrb hrz
 go_enter Tryz.func93,Tryz.ntmps93
 go_wp2_with fail;generalize World.alloc (World.alloc (World.alloc w (.cells #[.int .i64 s1,.slice A1 k1 ca1,.slice B1 l1 cb1,.int .i64 s2,.slice A2 k2 ca2,.slice B2 l2 cb2] _)) (.cells #[.int .i64 s3,.slice A3 k3 ca3,.slice B3 l3 cb3,.int .i64 s4,.slice A4 k4 ca4,.slice B4 l4 cb4] _)) (.cells #[.int .i64 0,.slice none 0 0,.slice none 0 0,.int .i64 0,.slice none 0 0,.slice none 0 0] _)=W2 at *
 have LT0:=ZZ (show w.heap.size≤w.heap.size+1 from Nat.le_succ _);have LT1:=ZZ (show w.heap.size≤w.heap.size+1+1 from Nat.le_succ_of_le (Nat.le_succ _));generalize hg0:w.heap.size=g0 at *;have HG0:=ZZ hg0;clear hg0;have n01:=ZZ (show g0≠g0+1 by omega);have n10:=ZZ (show g0+1≠g0 by omega);have n02:=ZZ (show g0≠g0+1+1 by omega);have n20:=ZZ (show g0+1+1≠g0 by omega);have n12:=ZZ (show g0+1≠g0+1+1 by omega);have n21:=ZZ (show g0+1+1≠g0+1 by omega)
 have HR:=ZZ (show ∀W:World,Ext W2 W→W.heap[g0]?=some (.cells #[.int .i64 s1,.slice A1 k1 ca1,.slice B1 l1 cb1,.int .i64 s2,.slice A2 k2 ca2,.slice B2 l2 cb2] 64 (0,0))∧W.heap[g0+1]?=some (.cells #[.int .i64 s3,.slice A3 k3 ca3,.slice B3 l3 cb3,.int .i64 s4,.slice A4 k4 ca4,.slice B4 l4 cb4] 64 (0,0))∧W.heap[g0+1+1]?=some (.cells #[.int .i64 0,.slice none 0 0,.slice none 0 0,.int .i64 0,.slice none 0 0,.slice none 0 0] 64 (0,0)) from fun W h=>
  ⟨(h.block _ (lt_of_block RA.out)).trans RA.out,(h.block _ (lt_of_block RB.out)).trans RB.out,(h.block _ (lt_of_block RZ.out)).trans RZ.out⟩)
 go_cut [] (fun wx=>∃s5 A5 k5 ca5 B5 l5 cb5 s6 A6 k6 ca6 B6 l6 cb6 s7 A7 k7 ca7 B7 l7 cb7 s8 A8 k8 ca8 B8 l8 cb8,wx.heap[g0]?=some (.cells #[.int .i64 s5,.slice A5 k5 ca5,.slice B5 l5 cb5,.int .i64 s6,.slice A6 k6 ca6,.slice B6 l6 cb6] 64 (0,0))∧wx.heap[g0+1]?=some (.cells #[.int .i64 s7,.slice A7 k7 ca7,.slice B7 l7 cb7,.int .i64 s8,.slice A8 k8 ca8,.slice B8 l8 cb8] 64 (0,0))∧wx.heap[g0+1+1]?=some (.cells #[.int .i64 0,.slice none 0 0,.slice none 0 0,.int .i64 0,.slice none 0 0,.slice none 0 0] 64 (0,0))∧Hid (∀W,SpR W (.agg #[.int .i64 s1,.slice A1 k1 ca1,.slice B1 l1 cb1,.int .i64 s2,.slice A2 k2 ca2,.slice B2 l2 cb2]) qa qb→SpR W (.agg #[.int .i64 s5,.slice A5 k5 ca5,.slice B5 l5 cb5,.int .i64 s6,.slice A6 k6 ca6,.slice B6 l6 cb6]) (au qa qb).1 (au qa qb).2)∧Hid (∀W,SpR W (.agg #[.int .i64 s3,.slice A3 k3 ca3,.slice B3 l3 cb3,.int .i64 s4,.slice A4 k4 ca4,.slice B4 l4 cb4]) qc qd→SpR W (.agg #[.int .i64 s7,.slice A7 k7 ca7,.slice B7 l7 cb7,.int .i64 s8,.slice A8 k8 ca8,.slice B8 l8 cb8]) (au qc qd).1 (au qc qd).2)∧Ext w wx)
 case first=>
  obtain⟨xy1,xy2,-⟩:=HR.out W2 (ae W2);obtain⟨x0,x1,x2,x3,x4,x5,xf0,xf1,xf2,xf3,xf4,xf5⟩:=ai xy1;obtain⟨y0,y1,y2,y3,y4,y5,yf0,yf1,yf2,yf3,yf4,yf5⟩:=ai xy2;clear xy1 xy2;have e1:=ZZ (ae W2)
  go_region_with (first
   |(go_at_call 142
     with_reducible refine(ends_c M HM.out _ qa qb _ (HA.out.mono (am hww.out (by repeat (with_reducible first|exact ae _|exact e1.out|refine am ?_ (ab _ _)|refine am ?_ (ac _))))) BA1.out BA2.out).mono ?_
     rintro e w4 ⟨v4,rfl,h4,k4⟩;obtain⟨s5,A5,k5,ca5,B5,l5,cb5,s6,A6,k6,ca6,B6,l6,cb6,rfl⟩:=(h4 _ (HA.out.mono hww.out)).form2;have S3:=ZZ h4;have hx2:=ZZ (show Ext W2 w4 from am (by repeat (with_reducible first|exact ae _|exact e1.out|refine am ?_ (ab _ _)|refine am ?_ (ac _))) k4);clear h4 k4;obtain⟨pq1,pq2,-⟩:=HR.out w4 hx2.out;obtain⟨p0,p1,p2,p3,p4,p5,pf0,pf1,pf2,pf3,pf4,pf5⟩:=ai pq1;obtain⟨q0,q1,q2,q3,q4,q5,qf0,qf1,qf2,qf3,qf4,qf5⟩:=ai pq2;clear pq1 pq2)
   |(go_at_call 142
     have _q:=hx2
     with_reducible refine(ends_c M HM.out _ qc qd _ (HB.out.mono (am hww.out hx2.out)) BB1.out BB2.out).mono ?_
     clear _q;rintro e w5 ⟨v5,rfl,h5,k5⟩;obtain⟨s7,A7,k7,ca7,B7,l7,cb7,s8,A8,k8,ca8,B8,l8,cb8,rfl⟩:=(h5 _ (HB.out.mono hww.out)).form2;have S4:=ZZ h5;have hx3:=ZZ (am hx2.out k5);clear h5 k5;clear p0 p1 p2 p3 p4 p5 pf0 pf1 pf2 pf3 pf4 pf5 q0 q1 q2 q3 q4 q5 qf0 qf1 qf2 qf3 qf4 qf5;obtain⟨pq1,pq2,-⟩:=HR.out w5 hx3.out;obtain⟨p0,p1,p2,p3,p4,p5,pf0,pf1,pf2,pf3,pf4,pf5⟩:=ai pq1;obtain⟨q0,q1,q2,q3,q4,q5,qf0,qf1,qf2,qf3,qf4,qf5⟩:=ai pq2;clear pq1 pq2;have u01:=n01.out;have u10:=n10.out))
  all_goals
   clear x0 x1 x2 x3 x4 x5 xf0 xf1 xf2 xf3 xf4 xf5 y0 y1 y2 y3 y4 y5 yf0 yf1 yf2 yf3 yf4 yf5 p0 p1 p2 p3 p4 p5 pf0 pf1 pf2 pf3 pf4 pf5 q0 q1 q2 q3 q4 q5 qf0 qf1 qf2 qf3 qf4 qf5 u01 u10;go_wp2_with fail;go_meet;obtain⟨hra,hrb,hrz⟩:=HR.out _ hx3.out;have ra1:((((((w5.setCell ⟨g0,0,none⟩ (.int .i64 s5)).setCell ⟨g0,1,none⟩ (.slice A5 k5 ca5)).setCell ⟨g0,2,none⟩ (.slice B5 l5 cb5)).setCell ⟨g0,3,none⟩ (.int .i64 s6)).setCell ⟨g0,4,none⟩ (.slice A6 k6 ca6)).setCell ⟨g0,5,none⟩ (.slice B6 l6 cb6)).heap[g0]?=some (.cells #[.int .i64 s5,.slice A5 k5 ca5,.slice B5 l5 cb5,.int .i64 s6,.slice A6 k6 ca6,.slice B6 l6 cb6] 64 (0,0)):=ag hra _ _ _ _ _ _;have rb1:((((((w5.setCell ⟨g0,0,none⟩ (.int .i64 s5)).setCell ⟨g0,1,none⟩ (.slice A5 k5 ca5)).setCell ⟨g0,2,none⟩ (.slice B5 l5 cb5)).setCell ⟨g0,3,none⟩ (.int .i64 s6)).setCell ⟨g0,4,none⟩ (.slice A6 k6 ca6)).setCell ⟨g0,5,none⟩ (.slice B6 l6 cb6)).heap[g0+1]?=some (.cells #[.int .i64 s3,.slice A3 k3 ca3,.slice B3 l3 cb3,.int .i64 s4,.slice A4 k4 ca4,.slice B4 l4 cb4] 64 (0,0)):=ah hrb n10.out _ _ _ _ _ _;have rz1:((((((w5.setCell ⟨g0,0,none⟩ (.int .i64 s5)).setCell ⟨g0,1,none⟩ (.slice A5 k5 ca5)).setCell ⟨g0,2,none⟩ (.slice B5 l5 cb5)).setCell ⟨g0,3,none⟩ (.int .i64 s6)).setCell ⟨g0,4,none⟩ (.slice A6 k6 ca6)).setCell ⟨g0,5,none⟩ (.slice B6 l6 cb6)).heap[g0+1+1]?=some (.cells #[.int .i64 0,.slice none 0 0,.slice none 0 0,.int .i64 0,.slice none 0 0,.slice none 0 0] 64 (0,0)):=ah hrz n20.out _ _ _ _ _ _
   exact⟨_,_,_,_,_,_,_,_,_,_,_,_,_,_,_,_,_,_,_,_,_,_,_,_,_,_,_,_,ah ra1 n01.out _ _ _ _ _ _,ag rb1 _ _ _ _ _ _,ah rz1 n21.out _ _ _ _ _ _,S3,S4,af (af (am hww.out hx3.out) (by rw [HG0.out];exact Nat.le_refl _) _ _ _ _ _ _) (by rw [HG0.out];exact LT0.out) _ _ _ _ _ _⟩
 case rest=>
  obtain⟨s5,A5,k5,ca5,B5,l5,cb5,s6,A6,k6,ca6,B6,l6,cb6,s7,A7,k7,ca7,B7,l7,cb7,s8,A8,k8,ca8,B8,l8,cb8,ra3,rb3,rz3,S5,S6,EF'⟩:=hcut;rename World=>WF;have ra2:=ZZ ra3;have rb2:=ZZ rb3;have rz2:=ZZ rz3;have EF:=ZZ EF';obtain⟨hl1,hh1⟩:=al.1 (S5.out WF (HA.out.mono EF'));obtain⟨hl2,hh2⟩:=al.1 (S6.out WF (HB.out.mono EF'));have HL1:=ZZ hl1;have HH1:=ZZ hh1;have HL2:=ZZ hl2;have HH2:=ZZ hh2;have SB1:=ZZ (fun (C:Nat→Prop) hb=>spbl_sem (C:=C) HA.out S5.out hb);have SB2:=ZZ (fun (C:Nat→Prop) hb=>spbl_sem (C:=C) HB.out S6.out hb);clear ra3 rb3 rz3 S5 S6 EF' hww HR RA RB RZ HA HB hl1 hh1 hl2 hh2;have BS:=ZZ (bq_sort BA1.out BA2.out);have BT:=ZZ (bq_sort BB1.out BB2.out)
  have HR:=ZZ (show ∀W:World,Ext WF W→W.heap[g0]?=some (.cells #[.int .i64 s5,.slice A5 k5 ca5,.slice B5 l5 cb5,.int .i64 s6,.slice A6 k6 ca6,.slice B6 l6 cb6] 64 (0,0))∧W.heap[g0+1]?=some (.cells #[.int .i64 s7,.slice A7 k7 ca7,.slice B7 l7 cb7,.int .i64 s8,.slice A8 k8 ca8,.slice B8 l8 cb8] 64 (0,0))∧W.heap[g0+1+1]?=some (.cells #[.int .i64 0,.slice none 0 0,.slice none 0 0,.int .i64 0,.slice none 0 0,.slice none 0 0] 64 (0,0)) from fun W h=>
   ⟨(h.block _ (lt_of_block ra2.out)).trans ra2.out,(h.block _ (lt_of_block rb2.out)).trans rb2.out,(h.block _ (lt_of_block rz2.out)).trans rz2.out⟩)
  clear ra2 rb2 rz2
  go_upto_region 2 with (fail)
  have e1:=ZZ (ac WF);have hx1:=e1
  go_region_held3 (fun W=>W.cell? ⟨g0,0,none⟩=some (.int .i64 s5)∧W.cell? ⟨g0,1,none⟩=some (.slice A5 k5 ca5)∧W.cell? ⟨g0,2,none⟩=some (.slice B5 l5 cb5)∧W.cell? ⟨g0,3,none⟩=some (.int .i64 s6)∧W.cell? ⟨g0,4,none⟩=some (.slice A6 k6 ca6)∧W.cell? ⟨g0,5,none⟩=some (.slice B6 l6 cb6)∧W.cell? ⟨g0+1,0,none⟩=some (.int .i64 s7)∧W.cell? ⟨g0+1,1,none⟩=some (.slice A7 k7 ca7)∧W.cell? ⟨g0+1,2,none⟩=some (.slice B7 l7 cb7)∧W.cell? ⟨g0+1,3,none⟩=some (.int .i64 s8)∧W.cell? ⟨g0+1,4,none⟩=some (.slice A8 k8 ca8)∧W.cell? ⟨g0+1,5,none⟩=some (.slice B8 l8 cb8))
   (first
    | with_reducible exact c12_of (HR.out _ hx3.out).1 (HR.out _ hx3.out).2.1
    | with_reducible exact c12_of (HR.out _ hx2.out).1 (HR.out _ hx2.out).2.1
    | with_reducible exact c12_of (HR.out _ hx1.out).1 (HR.out _ hx1.out).2.1
    | with_reducible exact c12_put (HR.out _ hx3.out).1 (HR.out _ hx3.out).2.1 n02.out n12.out _ _ _ _ _ _)
   (first
    |(have _q:=hx2
      go_at_call 87
      refine(add_f M HM.out _ _ (au qa qb).2 (au qc qd).2 _ (HH1.out.mono hx2.out) (HH2.out.mono hx2.out) BS.out.2 BT.out.2).mono ?_;clear _q;rintro e w8 ⟨v8,rfl,h8,kk8,f8⟩;obtain⟨s12,A12,k12,ca12,B12,l12,cb12,rfl,-⟩:=h8.form;have H5:=ZZ h8;have F8:=ZZ (fun (C:Nat→Prop) (hC:∀b,g0≤b→C b) h1 h2=>f8 C (fun b hb=>hC b (Nat.le_trans (by rw [←HG0.out];exact(am EF.out hx2.out).size) hb)) h1 h2);clear f8;have hx3:=ZZ (am hx2.out kk8);have e3:=ZZ kk8;clear h8 kk8;obtain⟨-,-,rz⟩:=HR.out w8 hx3.out;obtain⟨z0,z1,z2,z3,z4,z5,zf0,zf1,zf2,zf3,zf4,zf5⟩:=ai rz;have RZ5:=ZZ rz;clear rz)
    |(have _q:=hx1
      go_at_call 87
      refine(add_f M HM.out _ _ (au qa qb).1 (au qc qd).1 _ (HL1.out.mono hx1.out) (HL2.out.mono hx1.out) BS.out.1 BT.out.1).mono ?_;clear _q;rintro e w7 ⟨v7,rfl,h7,kk7,f7⟩;obtain⟨s11,A11,k11,ca11,B11,l11,cb11,rfl,-⟩:=h7.form;have H4:=ZZ h7;have F7:=ZZ (fun (C:Nat→Prop) (hC:∀b,g0≤b→C b) h1 h2=>f7 C (fun b hb=>hC b (Nat.le_trans (by rw [←HG0.out];exact(am EF.out hx1.out).size) hb)) h1 h2);clear f7;have hx2:=ZZ (am hx1.out kk7);clear h7 kk7))
  all_goals
   go_wp2_with fail;refine bodyPost_ret (v:=.agg #[.int .i64 s11,.slice A11 k11 ca11,.slice B11 l11 cb11,.int .i64 s12,.slice A12 k12 ca12,.slice B12 l12 cb12]) (by simp [results,Tryz.f93];go_simp) rfl ?_
   exact⟨_,rfl,al.2 ⟨ao (H4.out.mono e3.out) RZ5.out _ _ _ _ _ _,ao H5.out RZ5.out _ _ _ _ _ _⟩,af (am EF.out hx3.out) (by rw [HG0.out];exact LT1.out) _ _ _ _ _ _,fun C hC ha hb=>spbl_mk (F7.out C (fun b h=>hC b (by rw [HG0.out];exact h)) ((SB1.out C ha) _ _ _ _ _ _ rfl).1 ((SB2.out C hb) _ _ _ _ _ _ rfl).1) (F8.out C (fun b h=>hC b (by rw [HG0.out];exact h)) ((SB1.out C ha) _ _ _ _ _ _ rfl).2 ((SB2.out C hb) _ _ _ _ _ _ rfl).2)⟩
end Go.Proofs.YtjamgccgoapbeaaGreatDoor
