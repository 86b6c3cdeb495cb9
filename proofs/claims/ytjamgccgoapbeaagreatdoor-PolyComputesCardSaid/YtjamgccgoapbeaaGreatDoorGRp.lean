/- The reference's numbers: denominator, text, digits. Printed by gen_rn.py. The reference's numbers: products. Printed by gen_rp.py. -/
import Derived.Test.YtjamgccgoapbeaaGreatDoorGRm
import Derived.Test.YtjamgccgoapbeaaGreatDoorGRd
import Derived.Deep.RegionHeld3
set_option linter.unusedVariables false
set_option maxRecDepth 100000
set_option maxHeartbeats 64000000
namespace Go.Proofs.YtjamgccgoapbeaaGreatDoor
open Go.RowKit
theorem setupR1 (w:World) (x0 x1 x2:Value):(∀W,Ext (w.alloc (.cells #[x0,x1,x2] 62)) W→W.cell? ⟨w.heap.size,0,none⟩=some x0∧W.cell? ⟨w.heap.size,1,none⟩=some x1∧W.cell? ⟨w.heap.size,2,none⟩=some x2)∧Ext w (w.alloc (.cells #[x0,x1,x2] 62)):=by
 refine⟨fun W h=>?_,ab _ _⟩;obtain⟨a,b,c,-⟩:=ak (rowR h);exact⟨a,b,c⟩
theorem sign_neg {q:Rat} (h:q.num<0):q.num.sign = -1:=Int.sign_eq_neg_one_of_neg h
theorem sign_pos {q:Rat} (h:¬ q.num<0) (h0:q≠0):q.num.sign=1:=Int.sign_eq_one_of_pos (by have:q.num≠0:=fun e=>h0 (Rat.num_eq_zero.1 e);omega)
theorem text_zero (M:Nat) (hM:M≤1099511627776) (vx:Value) (x:Rat) (h0:x=0) (w:World) (hx:Nr w vx x) (bx:Bq M x):Calls Tryz.prog 91 #[vx] w fun e w'=>e=.returned (.string ⟨(txt x).toArray⟩)∧Ext w w':=by
 obtain⟨s,A,k,ca,B,l,cb,rfl,hsg,hxt,hxb⟩:=hx.form;have Hx:=ZZ hx;have HXT:=ZZ hxt;have HXB:=ZZ hxb;obtain⟨hS,hw1⟩:=setupR1 w (.int .i64 s) (.slice A k ca) (.slice B l cb);have HS:=ZZ hS;have K0:=ZZ hw1;have R0:=ZZ (ae (w.alloc (.cells #[.int .i64 s,.slice A k ca,.slice B l cb] 62)));have HM:=ZZ hM;have B1:=ZZ bx.1;have B2:=ZZ bx.2;subst h0;obtain rfl:s=0:=hsg.symm;have HZ:=ZZ (show txt 0=Lib.decDigits 0 by simp [txt]);rw [HZ.out];have z:=HS.out _ R0.out;clear hx hxt hxb hS hw1 hsg bx hM
 go_enter Tryz.func91,Tryz.ntmps91
 go_wp2_with fail;refine(decimal_r M HM.out _ (0) _ ((HXT.out.mono K0.out)) B1.out).mono ?_
 rintro e w1 ⟨rfl,h2⟩;have K1:=ZZ (am R0.out h2);clear h2;have z1:=HS.out _ K1.out;go_wp2_with fail;go_ret;exact⟨rfl,am K0.out K1.out⟩
theorem text_whole (M:Nat) (hM:M≤1099511627776) (vx:Value) (x:Rat) (h0:¬ x=0) (sgc:Int) (hc:x.num.sign=sgc) (pre:List UInt8) (hpre:sgc<0∧pre=[45]∨0<sgc∧pre=[]) (h1:x.den=1) (w:World) (hx:Nr w vx x) (bx:Bq M x):Calls Tryz.prog 91 #[vx] w fun e w'=>e=.returned (.string ⟨(pre ++ Lib.decDigits x.num.natAbs).toArray⟩)∧Ext w w':=by
 obtain⟨s,A,k,ca,B,l,cb,rfl,hsg,hxt,hxb⟩:=hx.form;have Hx:=ZZ hx;have HXT:=ZZ hxt;have HXB:=ZZ hxb;obtain⟨hS,hw1⟩:=setupR1 w (.int .i64 s) (.slice A k ca) (.slice B l cb);have HS:=ZZ hS;have K0:=ZZ hw1;have R0:=ZZ (ae (w.alloc (.cells #[.int .i64 s,.slice A k ca,.slice B l cb] 62)));have HM:=ZZ hM;have B1:=ZZ bx.1;have B2:=ZZ bx.2;obtain rfl:s=sgc:=hsg.symm.trans hc;have l1:=dec_len_r bx.1;have l2:=dec_len_r bx.2;obtain⟨dl,hdl⟩:∃d,d=Lib.decDigits x.num.natAbs:=⟨_,rfl⟩;obtain⟨dd,hdd⟩:∃d,d=Lib.decDigits x.den:=⟨_,rfl⟩;have HDL:=ZZ hdl;have HDD:=ZZ hdd;rw [←hdl] at l1 ⊢;rw [←hdd] at l2;have HBN:=ZZ (bn_ne h0);have H1:=ZZ h1;have z:=HS.out _ R0.out;have s1:(s == 0)=false:=by rw [beq_eq_false_iff_ne];omega
 have s2:(s != 0)=true:=by simp [bne,s1]
 clear hx hxt hxb hS hw1 hsg bx h0 hc hdl hdd h1
 rcases hpre with ⟨hlt,rfl⟩|⟨hlt,rfl⟩
 ·clear hM
  have c0:decide (s<0)=true:=by simp;omega
  have c1:1+dl.length≤9223372036854775807:=by have:=HM.out;omega
  have e1:(⟨#[45]⟩:ByteArray) ++ ⟨dl.toArray⟩=⟨(45 :: dl).toArray⟩:=str_append [45] dl;obtain⟨dm,hdm⟩:∃d,d=45 :: dl:=⟨_,rfl⟩;have hml:dm.length≤M+2:=by rw [hdm,List.length_cons];omega
  have HDM:=ZZ hdm;rw [←hdm] at e1;rw [show [45] ++ dl=dm from HDM.out.symm];clear hdm
  go_enter Tryz.func91,Tryz.ntmps91
  go_wp2_with fail;refine(decimal_r M HM.out _ (x.num.natAbs) _ ((HXT.out.mono K0.out)) B1.out).mono ?_
  rintro e w1 ⟨rfl,h2⟩;have K1:=ZZ (am R0.out h2);clear h2;rw [←HDL.out];have z1:=HS.out _ K1.out;go_wp2_with fail;refine(is1_r _ x.den true (by first|exact decide_eq_true H1.out|exact decide_eq_false H1.out) _ (by rw [←HBN.out];exact HXB.out.mono (am K0.out K1.out))).mono ?_;rintro e wi ⟨rfl,rfl⟩;go_wp2_with fail;go_ret;exact⟨rfl,am K0.out K1.out⟩
 ·clear hM
  have c0:decide (s<0)=false:=by simp;omega
  obtain⟨dm,hdm⟩:∃d,d=dl:=⟨_,rfl⟩;subst hdm;rw [List.nil_append];have hml:dm.length≤M+2:=by omega
  go_enter Tryz.func91,Tryz.ntmps91
  go_wp2_with fail;refine(decimal_r M HM.out _ (x.num.natAbs) _ ((HXT.out.mono K0.out)) B1.out).mono ?_
  rintro e w1 ⟨rfl,h2⟩;have K1:=ZZ (am R0.out h2);clear h2;rw [←HDL.out];have z1:=HS.out _ K1.out;go_wp2_with fail;refine(is1_r _ x.den true (by first|exact decide_eq_true H1.out|exact decide_eq_false H1.out) _ (by rw [←HBN.out];exact HXB.out.mono (am K0.out K1.out))).mono ?_;rintro e wi ⟨rfl,rfl⟩;go_wp2_with fail;go_ret;exact⟨rfl,am K0.out K1.out⟩
theorem text_frac (M:Nat) (hM:M≤1099511627776) (vx:Value) (x:Rat) (h0:¬ x=0) (sgc:Int) (hc:x.num.sign=sgc) (pre:List UInt8) (hpre:sgc<0∧pre=[45]∨0<sgc∧pre=[]) (h1:¬ x.den=1) (w:World) (hx:Nr w vx x) (bx:Bq M x):Calls Tryz.prog 91 #[vx] w fun e w'=>e=.returned (.string ⟨(pre ++ Lib.decDigits x.num.natAbs ++ 47 :: Lib.decDigits x.den).toArray⟩)∧Ext w w':=by
 obtain⟨s,A,k,ca,B,l,cb,rfl,hsg,hxt,hxb⟩:=hx.form;have Hx:=ZZ hx;have HXT:=ZZ hxt;have HXB:=ZZ hxb;obtain⟨hS,hw1⟩:=setupR1 w (.int .i64 s) (.slice A k ca) (.slice B l cb);have HS:=ZZ hS;have K0:=ZZ hw1;have R0:=ZZ (ae (w.alloc (.cells #[.int .i64 s,.slice A k ca,.slice B l cb] 62)));have HM:=ZZ hM;have B1:=ZZ bx.1;have B2:=ZZ bx.2;obtain rfl:s=sgc:=hsg.symm.trans hc;have l1:=dec_len_r bx.1;have l2:=dec_len_r bx.2;obtain⟨dl,hdl⟩:∃d,d=Lib.decDigits x.num.natAbs:=⟨_,rfl⟩;obtain⟨dd,hdd⟩:∃d,d=Lib.decDigits x.den:=⟨_,rfl⟩;have HDL:=ZZ hdl;have HDD:=ZZ hdd;rw [←hdl] at l1 ⊢;rw [←hdd] at l2 ⊢;have HBN:=ZZ (bn_ne h0);have H1:=ZZ h1;have z:=HS.out _ R0.out;have s1:(s == 0)=false:=by rw [beq_eq_false_iff_ne];omega
 have s2:(s != 0)=true:=by simp [bne,s1]
 clear hx hxt hxb hS hw1 hsg bx h0 hc hdl hdd h1
 rcases hpre with ⟨hlt,rfl⟩|⟨hlt,rfl⟩
 ·clear hM
  have c0:decide (s<0)=true:=by simp;omega
  have c1:1+dl.length≤9223372036854775807:=by have:=HM.out;omega
  have e1:(⟨#[45]⟩:ByteArray) ++ ⟨dl.toArray⟩=⟨(45 :: dl).toArray⟩:=str_append [45] dl;obtain⟨dm,hdm⟩:∃d,d=45 :: dl:=⟨_,rfl⟩;have hml:dm.length≤M+2:=by rw [hdm,List.length_cons];omega
  have HDM:=ZZ hdm;rw [←hdm] at e1;rw [show [45] ++ dl=dm from HDM.out.symm];have c2:dm.length+1≤9223372036854775807:=by have:=HM.out;omega
  have e2:(⟨dm.toArray⟩:ByteArray) ++ ⟨#[47]⟩=⟨(dm ++ [47]).toArray⟩:=str_append dm [47];have c3:(dm ++ [47]).length+dd.length≤9223372036854775807:=by rw [List.length_append];have:=HM.out;simp;omega
  have c4:dm.length+1+dd.length≤9223372036854775807:=by have:=HM.out;omega
  have e3:(⟨(dm ++ [47]).toArray⟩:ByteArray) ++ ⟨dd.toArray⟩=⟨(dm ++ 47 :: dd).toArray⟩:=by rw [str_append];simp
  clear hdm
  go_enter Tryz.func91,Tryz.ntmps91
  go_wp2_with fail;refine(decimal_r M HM.out _ (x.num.natAbs) _ ((HXT.out.mono K0.out)) B1.out).mono ?_
  rintro e w1 ⟨rfl,h2⟩;have K1:=ZZ (am R0.out h2);clear h2;rw [←HDL.out];have z1:=HS.out _ K1.out;go_wp2_with fail;refine(is1_r _ x.den false (by first|exact decide_eq_true H1.out|exact decide_eq_false H1.out) _ (by rw [←HBN.out];exact HXB.out.mono (am K0.out K1.out))).mono ?_;rintro e wi ⟨rfl,rfl⟩;go_wp2_with fail;refine(decimal_r M HM.out _ x.den _ (by rw [←HBN.out];exact HXB.out.mono (am K0.out K1.out)) B2.out).mono ?_;rintro e w2 ⟨rfl,h2⟩;have K2:=ZZ (am K1.out h2);clear h2;rw [←HDD.out];have z2:=HS.out _ K2.out;go_wp2_with fail;go_ret;exact⟨rfl,am K0.out K2.out⟩
 ·clear hM
  have c0:decide (s<0)=false:=by simp;omega
  obtain⟨dm,hdm⟩:∃d,d=dl:=⟨_,rfl⟩;subst hdm;rw [List.nil_append];have hml:dm.length≤M+2:=by omega
  have c2:dm.length+1≤9223372036854775807:=by have:=HM.out;omega
  have e2:(⟨dm.toArray⟩:ByteArray) ++ ⟨#[47]⟩=⟨(dm ++ [47]).toArray⟩:=str_append dm [47];have c3:(dm ++ [47]).length+dd.length≤9223372036854775807:=by rw [List.length_append];have:=HM.out;simp;omega
  have c4:dm.length+1+dd.length≤9223372036854775807:=by have:=HM.out;omega
  have e3:(⟨(dm ++ [47]).toArray⟩:ByteArray) ++ ⟨dd.toArray⟩=⟨(dm ++ 47 :: dd).toArray⟩:=by rw [str_append];simp
  go_enter Tryz.func91,Tryz.ntmps91
  go_wp2_with fail;refine(decimal_r M HM.out _ (x.num.natAbs) _ ((HXT.out.mono K0.out)) B1.out).mono ?_
  rintro e w1 ⟨rfl,h2⟩;have K1:=ZZ (am R0.out h2);clear h2;rw [←HDL.out];have z1:=HS.out _ K1.out;go_wp2_with fail;refine(is1_r _ x.den false (by first|exact decide_eq_true H1.out|exact decide_eq_false H1.out) _ (by rw [←HBN.out];exact HXB.out.mono (am K0.out K1.out))).mono ?_;rintro e wi ⟨rfl,rfl⟩;go_wp2_with fail;refine(decimal_r M HM.out _ x.den _ (by rw [←HBN.out];exact HXB.out.mono (am K0.out K1.out)) B2.out).mono ?_;rintro e w2 ⟨rfl,h2⟩;have K2:=ZZ (am K1.out h2);clear h2;rw [←HDD.out];have z2:=HS.out _ K2.out;go_wp2_with fail;go_ret;exact⟨rfl,am K0.out K2.out⟩
theorem text_r (M:Nat) (hM:M≤1099511627776) (vx:Value) (x:Rat) (w:World) (hx:Nr w vx x) (bx:Bq M x):Calls Tryz.prog 91 #[vx] w fun e w'=>e=.returned (.string ⟨(txt x).toArray⟩)∧Ext w w':=by
 by_cases h0:x=0
 ·exact text_zero M hM vx x h0 w hx bx
 ·have hp:∃(c:Int) (pre:List UInt8),x.num.sign=c∧(c<0∧pre=[45]∨0<c∧pre=[])∧(if x.num<0 then [45] else [])=pre:=by
   by_cases h:x.num<0
   ·exact⟨-1,[45],sign_neg h,.inl ⟨by omega,rfl⟩,by rw [if_pos h]⟩
   ·exact⟨1,[],sign_pos h h0,.inr ⟨by omega,rfl⟩,by rw [if_neg h]⟩
  obtain⟨c,pre,hc,hp,he⟩:=hp;unfold txt;rw [he]
  by_cases h1:x.den=1
  ·have h:=text_whole M hM vx x h0 c hc pre hp h1 w hx bx
   rw [if_pos h1,List.append_nil];exact h
  ·have h:=text_frac M hM vx x h0 c hc pre hp h1 w hx bx
   rw [if_neg h1];exact h
end Go.Proofs.YtjamgccgoapbeaaGreatDoor
set_option linter.unusedVariables false
set_option maxRecDepth 100000
set_option maxHeartbeats 64000000
namespace Go.Proofs.YtjamgccgoapbeaaGreatDoor
open Go.RowKit
theorem setupR2 (w:World) (x0 x1 x2 y0 y1 y2:Value):(∀W,Ext ((w.alloc (.cells #[x0,x1,x2] 62)).alloc (.cells #[y0,y1,y2] 62)) W→W.cell? ⟨w.heap.size,0,none⟩=some x0∧W.cell? ⟨w.heap.size,1,none⟩=some x1∧W.cell? ⟨w.heap.size,2,none⟩=some x2∧W.cell? ⟨w.heap.size+1,0,none⟩=some y0∧W.cell? ⟨w.heap.size+1,1,none⟩=some y1∧W.cell? ⟨w.heap.size+1,2,none⟩=some y2)∧(∀W,Ext (((w.alloc (.cells #[x0,x1,x2] 62)).alloc (.cells #[y0,y1,y2] 62)).alloc (.cells #[.int .i64 0,.slice none 0 0,.slice none 0 0] 62)) W→W.heap[w.heap.size+1+1]?=some (.cells #[.int .i64 0,.slice none 0 0,.slice none 0 0] 62 (0,0)))∧Ext w ((w.alloc (.cells #[x0,x1,x2] 62)).alloc (.cells #[y0,y1,y2] 62))∧Ext ((w.alloc (.cells #[x0,x1,x2] 62)).alloc (.cells #[y0,y1,y2] 62)) (((w.alloc (.cells #[x0,x1,x2] 62)).alloc (.cells #[y0,y1,y2] 62)).alloc (.cells #[.int .i64 0,.slice none 0 0,.slice none 0 0] 62))∧w.heap.size≤w.heap.size+1+1∧((w.alloc (.cells #[x0,x1,x2] 62)).alloc (.cells #[y0,y1,y2] 62)).heap.size≤w.heap.size+1+1:=by
 have z0:(w.alloc (.cells #[x0,x1,x2] 62)).heap.size=w.heap.size+1:=by simp
 have z1:((w.alloc (.cells #[x0,x1,x2] 62)).alloc (.cells #[y0,y1,y2] 62)).heap.size=w.heap.size+1+1:=by simp
 have e0:Ext w (w.alloc (.cells #[x0,x1,x2] 62)):=ab _ _;generalize hw0:w.alloc (.cells #[x0,x1,x2] 62)=w0 at *;have e1:Ext w0 (w0.alloc (.cells #[y0,y1,y2] 62)):=ab _ _;refine⟨fun W h=>?_,fun W h=>?_,am e0 e1,ab _ _,by omega,Nat.le_of_eq z1⟩
 ·have r0:=rowR (hw0 ▸ (am e1 h):Ext (w.alloc (.cells #[x0,x1,x2] 62)) W)
  have r1:=rowR h;rw [z0] at r1;obtain⟨a,b,c,-⟩:=ak r0;obtain⟨a',b',c',-⟩:=ak r1;exact⟨a,b,c,a',b',c'⟩
 ·have r2:=rowR h
  rw [z1] at r2;exact r2
theorem sr_bits {n B:Nat} (h:n<2 ^ B) (hB:B≤1099511627776):Sr n:=by
 have:=dr_bits h
 unfold Sr;omega
theorem mul_n_zero (vx vy:Value) (x y:Rat) (w:World) (hx:Nr w vx x) (hy:Nr w vy y) (h0:x.num.sign*y.num.sign=0):Calls Tryz.prog 90 #[vx,vy] w fun e w'=>∃v,e=.returned v∧Nr w' v (x*y)∧Ext w w'∧FrN w.heap.size v:=by
 obtain⟨s1,A,k,ca,B,l,cb,rfl,hs1,hxt,hxb⟩:=hx.form;obtain⟨s2,C,m,cc,D,n,cd,rfl,hs2,hyt,hyb⟩:=hy.form;obtain⟨hS,hZ,hw1,hw2,hsz,hsz1⟩:=setupR2 w (.int .i64 s1) (.slice A k ca) (.slice B l cb) (.int .i64 s2) (.slice C m cc) (.slice D n cd);have HS:=ZZ hS;have HZ:=ZZ hZ;have HW1:=ZZ hw1;have HW2:=ZZ hw2;have Hsz1:=ZZ hsz1;have Hx:=ZZ hx;have Hy:=ZZ hy;have HXT:=ZZ hxt;have HYT:=ZZ hyt;have HS1:=ZZ hs1;have HS2:=ZZ hs2;have HE:=ZZ (mul_zero_iff h0);have h00:s1*s2=0:=by rw [←hs1,←hs2];exact h0
 have hwr:IntKind.i64.wrap (s1*s2)=0:=by rw [h00];exact IntWalk.i64_in _ (by omega)
 rw [HE.out];have hc0:=hS _ hw2;clear hx hy hxt hxb hyt hyb hS hZ hw1 hw2 hsz hsz1 hs1 hs2;clear h0 h00
 go_enter Tryz.func90,Tryz.ntmps90
 go_wp2_with fail;generalize World.alloc (World.alloc (World.alloc w (.cells #[.int .i64 s1,.slice A k ca,.slice B l cb] _)) (.cells #[.int .i64 s2,.slice C m cc,.slice D n cd] _)) _=W2 at *
 generalize World.alloc (World.alloc w (.cells #[.int .i64 s1,.slice A k ca,.slice B l cb] _)) (.cells #[.int .i64 s2,.slice C m cc,.slice D n cd] _)=W1 at *;generalize hg0:w.heap.size=g0 at *;have Hsz:=ZZ (show w.heap.size≤g0+1+1 by omega);clear hg0;have hZ2:=ak (HZ.out W2 (ae _));have hww:=ZZ (am HW1.out HW2.out);have HG0:=ZZ (show ∀W:World,Ext w W→w.heap.size≤W.heap.size from fun W h=>h.size);refine bodyPost_ret (v:=.agg #[.int .i64 0,.slice none 0 0,.slice none 0 0]) (by simp [results,Tryz.f90];go_simp) rfl ?_;exact⟨_,rfl,Nr.zero _,hww.out,frn_mk (fun b hb=>by cases hb) (fun b hb=>by cases hb)⟩
theorem mul_n_pos (M:Nat) (hM:M≤134217728) (vx vy:Value) (x y:Rat) (w:World) (hx:Nr w vx x) (hy:Nr w vy y) (bx:Bq M x) (by_:Bq M y) (hx0:x≠0) (hy0:y≠0):Calls Tryz.prog 90 #[vx,vy] w fun e w'=>∃v,e=.returned v∧Nr w' v (x*y)∧Ext w w'∧FrN w.heap.size v:=by
 obtain⟨s1,A,k,ca,B,l,cb,rfl,hs1,hxt,hxb⟩:=hx.form;obtain⟨s2,C,m,cc,D,n,cd,rfl,hs2,hyt,hyb⟩:=hy.form;obtain⟨hS,hZ,hw1,hw2,hsz,hsz1⟩:=setupR2 w (.int .i64 s1) (.slice A k ca) (.slice B l cb) (.int .i64 s2) (.slice C m cc) (.slice D n cd);have HS:=ZZ hS;have HZ:=ZZ hZ;have HW1:=ZZ hw1;have HW2:=ZZ hw2;have Hsz1:=ZZ hsz1;have Hx:=ZZ hx;have Hy:=ZZ hy;have HXT:=ZZ hxt;have HYT:=ZZ hyt;have HS1:=ZZ hs1;have HS2:=ZZ hs2;have HXB:=ZZ hxb;have HYB:=ZZ hyb;rw [bn_ne hx0] at HXB;rw [bn_ne hy0] at HYB;obtain⟨sp,hsp⟩:∃sp,s1*s2=sp:=⟨_,rfl⟩;have hq:sgnB (decide (x.num<0) != decide (y.num<0))=sp:=by rw [sgnB_xor,←sign_sgnB hx0,←sign_sgnB hy0,hs1,hs2,hsp]
 have hsb:sp=1∨sp = -1:=by rw [←hq];generalize (decide (x.num<0) != decide (y.num<0))=b;cases b <;> simp [sgnB]
 have hwr:IntKind.i64.wrap (s1*s2)=sp:=by rw [hsp];exact IntWalk.i64_in _ (by omega)
 have hz0:(sp == 0)=false:=by rw [beq_eq_false_iff_ne];omega
 have HQ:=ZZ hq;have HFIN:=ZZ (mul_parts x y);have S3:=ZZ (sr_bits bx.1 (by omega));have S4:=ZZ (sr_bits bx.2 (by omega));have S5:=ZZ (sr_bits by_.1 (by omega));have S6:=ZZ (sr_bits by_.2 (by omega));have D0:=ZZ (Nat.mul_pos x.den_pos y.den_pos);have L1:=ZZ (show (dr (x.num.natAbs*y.num.natAbs)).length≤1073741824 from Nat.le_trans (dr_bits (lt_mul bx.1 by_.1)) (by omega));have L2:=ZZ (show (dr (x.den*y.den)).length≤1073741824 from Nat.le_trans (dr_bits (lt_mul bx.2 by_.2)) (by omega));clear hx hy hxt hxb hyt hyb hS hZ hw1 hw2 hsz hsz1 hs1 hs2;clear hx0 hy0 bx by_ hM hsp hq hsb
 go_enter Tryz.func90,Tryz.ntmps90
 go_upto_region 3 with (fail)
 generalize World.alloc (World.alloc (World.alloc w (.cells #[.int .i64 s1,.slice A k ca,.slice B l cb] _)) (.cells #[.int .i64 s2,.slice C m cc,.slice D n cd] _)) _=W2 at *;generalize World.alloc (World.alloc w (.cells #[.int .i64 s1,.slice A k ca,.slice B l cb] _)) (.cells #[.int .i64 s2,.slice C m cc,.slice D n cd] _)=W1 at *;generalize hg0:w.heap.size=g0 at *;have Hsz:=ZZ (show w.heap.size≤g0+1+1 by omega);clear hg0;have hww:=ZZ (am HW1.out HW2.out);have HG0:=ZZ (show ∀W:World,Ext w W→w.heap.size≤W.heap.size from fun W h=>h.size);have hS0:=HS.out W2 HW2.out;have hx1:=ZZ (ac W2)
 go_region_held3 (fun W=>W.cell? ⟨g0,0,none⟩=some (.int .i64 s1)∧W.cell? ⟨g0,1,none⟩=some (.slice A k ca)∧W.cell? ⟨g0,2,none⟩=some (.slice B l cb)∧W.cell? ⟨g0+1,0,none⟩=some (.int .i64 s2)∧W.cell? ⟨g0+1,1,none⟩=some (.slice C m cc)∧W.cell? ⟨g0+1,2,none⟩=some (.slice D n cd))
  (first
   | exact HS.out _ (av (am HW2.out hx4.out) Hsz1.out _ _ _)
   | exact HS.out _ (am HW2.out hx4.out)
   | exact HS.out _ (am HW2.out hx3.out)
   | exact HS.out _ (am HW2.out hx2.out)
   | exact HS.out _ (am HW2.out hx1.out))
  (first
   |(have _q:=hx3
     go_at_call 131
     refine(made_f _ sp HQ.out _ _ (x.num.natAbs*y.num.natAbs) (x.den*y.den) D0.out _ H3'.out H4.out L1.out L2.out).mono ?_;clear _q;rintro e w3 ⟨v3,rfl,h7,k4,fr⟩;obtain⟨s7,A7,k7,c7,B7,l7,d7,h7e,-⟩:=h7.form;subst h7e;have H7:=ZZ h7;have F3:=ZZ (fr.1 _ (HG0.out _ (am hww.out hx3.out)) F1.out F2.out);clear fr;have hx4:=ZZ (am hx3.out k4);have hz:=HZ.out _ hx4.out;obtain⟨z0,z1,z2,f0,f1,f2⟩:=ak hz;have Hz:=ZZ hz;clear h7 k4 hz)
   |(have _q:=hx2
     go_at_call 136
     refine(times_f _ _ x.den y.den _ (HXB.out.mono (am hww.out hx2.out)) (HYB.out.mono (am hww.out hx2.out)) S4.out S6.out).mono ?_;clear _q;rintro e w2 ⟨v2,rfl,h4,k3,fr⟩;obtain⟨P2,p2,c2,rfl⟩:=h4.form';have H4:=ZZ h4;have F2:=ZZ (fr.mono (HG0.out _ (am hww.out hx2.out)));clear fr;have H3':=ZZ (H3.out.mono k3);have hx3:=ZZ (am hx2.out k3);clear h4 k3)
   |(have _q:=hx1
     go_at_call 136
     refine(times_f _ _ x.num.natAbs y.num.natAbs _ (HXT.out.mono (am hww.out hx1.out)) (HYT.out.mono (am hww.out hx1.out)) S3.out S5.out).mono ?_;clear _q;rintro e w1 ⟨v1,rfl,h3,k2,fr⟩;obtain⟨P1,p1,c1,rfl⟩:=h3.form';have H3:=ZZ h3;have F1:=ZZ (fr.mono (HG0.out _ (am hww.out hx1.out)));clear fr;have hx2:=ZZ (am hx1.out k2);clear h3 k2))
 go_wp2_with fail;refine bodyPost_ret (v:=.agg #[.int .i64 s7,.slice A7 k7 c7,.slice B7 l7 d7]) (by simp [results,Tryz.f90];go_simp) rfl ?_
 refine⟨_,rfl,?_,av (am hww.out hx4.out) Hsz.out _ _ _,F3.out⟩;rw [←HFIN.out];exact Nr.put_z H7.out Hz.out _ _ _
theorem mul_f (M:Nat) (hM:M≤134217728) (vx vy:Value) (x y:Rat) (w:World) (hx:Nr w vx x) (hy:Nr w vy y) (bx:Bq M x) (by_:Bq M y):Calls Tryz.prog 90 #[vx,vy] w fun e w'=>∃v,e=.returned v∧Nr w' v (x*y)∧Ext w w'∧FrN w.heap.size v:=by
 by_cases hx0:x=0
 ·exact mul_n_zero vx vy x y w hx hy (by rw [hx0];simp)
 ·by_cases hy0:y=0
  ·exact mul_n_zero vx vy x y w hx hy (by rw [hy0];simp)
  ·exact mul_n_pos M hM vx vy x y w hx hy bx by_ hx0 hy0
end Go.Proofs.YtjamgccgoapbeaaGreatDoor
