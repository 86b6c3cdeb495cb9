/- The reference's numbers: denominator, text, digits. Printed by gen_rn.py. Common divisors, exact quotients, square-free parts. -/
import Derived.Test.YtoefieefcndlkaaGreatDoorGRl
import Derived.Test.YtoefieefcndlkaaGreatDoorGRat
import Derived.Deep.RegionHeld3
import Derived.Test.YtoefieefcndlkaaGreatDoorGQv
set_option linter.unusedVariables false
set_option maxRecDepth 100000
set_option maxHeartbeats 64000000
namespace Go.Proofs.YtoefieefcndlkaaGreatDoor
open Go.RowKit
theorem setupR1 (w:World) (x0 x1 x2:Value):(∀W,Ext (w.alloc (.cells #[x0,x1,x2] 75)) W→W.cell? ⟨w.heap.size,0,none⟩=some x0∧W.cell? ⟨w.heap.size,1,none⟩=some x1∧W.cell? ⟨w.heap.size,2,none⟩=some x2)∧Ext w (w.alloc (.cells #[x0,x1,x2] 75)):=by
 refine⟨fun W h=>?_,ab _ _⟩;obtain⟨a,b,c,-⟩:=aj (rowR h);exact⟨a,b,c⟩
theorem sign_neg {q:Rat} (h:q.num<0):q.num.sign = -1:=Int.sign_eq_neg_one_of_neg h
theorem sign_pos {q:Rat} (h:¬ q.num<0) (h0:q≠0):q.num.sign=1:=Int.sign_eq_one_of_pos (by have:q.num≠0:=fun e=>h0 (Rat.num_eq_zero.1 e);omega)
theorem text_zero (M:Nat) (hM:M≤1099511627776) (vx:Value) (x:Rat) (h0:x=0) (w:World) (hx:Nr w vx x) (bx:Bq M x):Calls Tryz.prog 93 #[vx] w fun e w'=>e=.returned (.string ⟨(txt x).toArray⟩)∧Ext w w':=by
 obtain⟨s,A,k,ca,B,l,cb,rfl,hsg,hxt,hxb⟩:=hx.form;have Hx:=ZZ hx;have HXT:=ZZ hxt;have HXB:=ZZ hxb;obtain⟨hS,hw1⟩:=setupR1 w (.int .i64 s) (.slice A k ca) (.slice B l cb);have HS:=ZZ hS;have K0:=ZZ hw1;have R0:=ZZ (ae (w.alloc (.cells #[.int .i64 s,.slice A k ca,.slice B l cb] 75)));have HM:=ZZ hM;have B1:=ZZ bx.1;have B2:=ZZ bx.2;subst h0;obtain rfl:s=0:=hsg.symm;have HZ:=ZZ (show txt 0=Lib.decDigits 0 by simp [txt]);rw [HZ.out];have z:=HS.out _ R0.out;clear hx hxt hxb hS hw1 hsg bx hM
 go_enter Tryz.func93,Tryz.ntmps93
 go_wp2_with fail;refine(decimal_r M HM.out _ (0) _ ((HXT.out.mono K0.out)) B1.out).mono ?_
 rintro e w1 ⟨rfl,h2⟩;have K1:=ZZ (ak R0.out h2);clear h2;have z1:=HS.out _ K1.out;go_wp2_with fail;go_ret;exact⟨rfl,ak K0.out K1.out⟩
theorem text_whole (M:Nat) (hM:M≤1099511627776) (vx:Value) (x:Rat) (h0:¬ x=0) (sgc:Int) (hc:x.num.sign=sgc) (pre:List UInt8) (hpre:sgc<0∧pre=[45]∨0<sgc∧pre=[]) (h1:x.den=1) (w:World) (hx:Nr w vx x) (bx:Bq M x):Calls Tryz.prog 93 #[vx] w fun e w'=>e=.returned (.string ⟨(pre ++ Lib.decDigits x.num.natAbs).toArray⟩)∧Ext w w':=by
 obtain⟨s,A,k,ca,B,l,cb,rfl,hsg,hxt,hxb⟩:=hx.form;have Hx:=ZZ hx;have HXT:=ZZ hxt;have HXB:=ZZ hxb;obtain⟨hS,hw1⟩:=setupR1 w (.int .i64 s) (.slice A k ca) (.slice B l cb);have HS:=ZZ hS;have K0:=ZZ hw1;have R0:=ZZ (ae (w.alloc (.cells #[.int .i64 s,.slice A k ca,.slice B l cb] 75)));have HM:=ZZ hM;have B1:=ZZ bx.1;have B2:=ZZ bx.2;obtain rfl:s=sgc:=hsg.symm.trans hc;have l1:=dec_len_r bx.1;have l2:=dec_len_r bx.2;obtain⟨dl,hdl⟩:∃d,d=Lib.decDigits x.num.natAbs:=⟨_,rfl⟩;obtain⟨dd,hdd⟩:∃d,d=Lib.decDigits x.den:=⟨_,rfl⟩;have HDL:=ZZ hdl;have HDD:=ZZ hdd;rw [←hdl] at l1 ⊢;rw [←hdd] at l2;have HBN:=ZZ (bn_ne h0);have H1:=ZZ h1;have z:=HS.out _ R0.out;have s1:(s == 0)=false:=by rw [beq_eq_false_iff_ne];omega
 have s2:(s != 0)=true:=by simp [bne,s1]
 clear hx hxt hxb hS hw1 hsg bx h0 hc hdl hdd h1
 rcases hpre with ⟨hlt,rfl⟩|⟨hlt,rfl⟩
 ·clear hM
  have c0:decide (s<0)=true:=by simp;omega
  have c1:1+dl.length≤9223372036854775807:=by have:=HM.out;omega
  have e1:(⟨#[45]⟩:ByteArray) ++ ⟨dl.toArray⟩=⟨(45 :: dl).toArray⟩:=str_append [45] dl;obtain⟨dm,hdm⟩:∃d,d=45 :: dl:=⟨_,rfl⟩;have hml:dm.length≤M+2:=by rw [hdm,List.length_cons];omega
  have HDM:=ZZ hdm;rw [←hdm] at e1;rw [show [45] ++ dl=dm from HDM.out.symm];clear hdm
  go_enter Tryz.func93,Tryz.ntmps93
  go_wp2_with fail;refine(decimal_r M HM.out _ (x.num.natAbs) _ ((HXT.out.mono K0.out)) B1.out).mono ?_
  rintro e w1 ⟨rfl,h2⟩;have K1:=ZZ (ak R0.out h2);clear h2;rw [←HDL.out];have z1:=HS.out _ K1.out;go_wp2_with fail;refine(is1_r _ x.den true (by first|exact decide_eq_true H1.out|exact decide_eq_false H1.out) _ (by rw [←HBN.out];exact HXB.out.mono (ak K0.out K1.out))).mono ?_;rintro e wi ⟨rfl,rfl⟩;go_wp2_with fail;go_ret;exact⟨rfl,ak K0.out K1.out⟩
 ·clear hM
  have c0:decide (s<0)=false:=by simp;omega
  obtain⟨dm,hdm⟩:∃d,d=dl:=⟨_,rfl⟩;subst hdm;rw [List.nil_append];have hml:dm.length≤M+2:=by omega
  go_enter Tryz.func93,Tryz.ntmps93
  go_wp2_with fail;refine(decimal_r M HM.out _ (x.num.natAbs) _ ((HXT.out.mono K0.out)) B1.out).mono ?_
  rintro e w1 ⟨rfl,h2⟩;have K1:=ZZ (ak R0.out h2);clear h2;rw [←HDL.out];have z1:=HS.out _ K1.out;go_wp2_with fail;refine(is1_r _ x.den true (by first|exact decide_eq_true H1.out|exact decide_eq_false H1.out) _ (by rw [←HBN.out];exact HXB.out.mono (ak K0.out K1.out))).mono ?_;rintro e wi ⟨rfl,rfl⟩;go_wp2_with fail;go_ret;exact⟨rfl,ak K0.out K1.out⟩
theorem text_frac (M:Nat) (hM:M≤1099511627776) (vx:Value) (x:Rat) (h0:¬ x=0) (sgc:Int) (hc:x.num.sign=sgc) (pre:List UInt8) (hpre:sgc<0∧pre=[45]∨0<sgc∧pre=[]) (h1:¬ x.den=1) (w:World) (hx:Nr w vx x) (bx:Bq M x):Calls Tryz.prog 93 #[vx] w fun e w'=>e=.returned (.string ⟨(pre ++ Lib.decDigits x.num.natAbs ++ 47 :: Lib.decDigits x.den).toArray⟩)∧Ext w w':=by
 obtain⟨s,A,k,ca,B,l,cb,rfl,hsg,hxt,hxb⟩:=hx.form;have Hx:=ZZ hx;have HXT:=ZZ hxt;have HXB:=ZZ hxb;obtain⟨hS,hw1⟩:=setupR1 w (.int .i64 s) (.slice A k ca) (.slice B l cb);have HS:=ZZ hS;have K0:=ZZ hw1;have R0:=ZZ (ae (w.alloc (.cells #[.int .i64 s,.slice A k ca,.slice B l cb] 75)));have HM:=ZZ hM;have B1:=ZZ bx.1;have B2:=ZZ bx.2;obtain rfl:s=sgc:=hsg.symm.trans hc;have l1:=dec_len_r bx.1;have l2:=dec_len_r bx.2;obtain⟨dl,hdl⟩:∃d,d=Lib.decDigits x.num.natAbs:=⟨_,rfl⟩;obtain⟨dd,hdd⟩:∃d,d=Lib.decDigits x.den:=⟨_,rfl⟩;have HDL:=ZZ hdl;have HDD:=ZZ hdd;rw [←hdl] at l1 ⊢;rw [←hdd] at l2 ⊢;have HBN:=ZZ (bn_ne h0);have H1:=ZZ h1;have z:=HS.out _ R0.out;have s1:(s == 0)=false:=by rw [beq_eq_false_iff_ne];omega
 have s2:(s != 0)=true:=by simp [bne,s1]
 clear hx hxt hxb hS hw1 hsg bx h0 hc hdl hdd h1
 rcases hpre with ⟨hlt,rfl⟩|⟨hlt,rfl⟩
 ·clear hM
  have c0:decide (s<0)=true:=by simp;omega
  have c1:1+dl.length≤9223372036854775807:=by have:=HM.out;omega
  have e1:(⟨#[45]⟩:ByteArray) ++ ⟨dl.toArray⟩=⟨(45 :: dl).toArray⟩:=str_append [45] dl;obtain⟨dm,hdm⟩:∃d,d=45 :: dl:=⟨_,rfl⟩;have hml:dm.length≤M+2:=by rw [hdm,List.length_cons];omega
  have HDM:=ZZ hdm;rw [←hdm] at e1;rw [show [45] ++ dl=dm from HDM.out.symm];have c2:dm.length+1≤9223372036854775807:=by have:=HM.out;omega
  have e2:(⟨dm.toArray⟩:ByteArray) ++ ⟨#[47]⟩=⟨(dm ++ [47]).toArray⟩:=str_append dm [47];have c3:(dm ++ [47]).length+dd.length≤9223372036854775807:=by rw [List.length_append];have:=HM.out;simp;omega
  have c4:dm.length+1+dd.length≤9223372036854775807:=by have:=HM.out;omega
  have e3:(⟨(dm ++ [47]).toArray⟩:ByteArray) ++ ⟨dd.toArray⟩=⟨(dm ++ 47 :: dd).toArray⟩:=by rw [str_append];simp
  clear hdm
  go_enter Tryz.func93,Tryz.ntmps93
  go_wp2_with fail;refine(decimal_r M HM.out _ (x.num.natAbs) _ ((HXT.out.mono K0.out)) B1.out).mono ?_
  rintro e w1 ⟨rfl,h2⟩;have K1:=ZZ (ak R0.out h2);clear h2;rw [←HDL.out];have z1:=HS.out _ K1.out;go_wp2_with fail;refine(is1_r _ x.den false (by first|exact decide_eq_true H1.out|exact decide_eq_false H1.out) _ (by rw [←HBN.out];exact HXB.out.mono (ak K0.out K1.out))).mono ?_;rintro e wi ⟨rfl,rfl⟩;go_wp2_with fail;refine(decimal_r M HM.out _ x.den _ (by rw [←HBN.out];exact HXB.out.mono (ak K0.out K1.out)) B2.out).mono ?_;rintro e w2 ⟨rfl,h2⟩;have K2:=ZZ (ak K1.out h2);clear h2;rw [←HDD.out];have z2:=HS.out _ K2.out;go_wp2_with fail;go_ret;exact⟨rfl,ak K0.out K2.out⟩
 ·clear hM
  have c0:decide (s<0)=false:=by simp;omega
  obtain⟨dm,hdm⟩:∃d,d=dl:=⟨_,rfl⟩;subst hdm;rw [List.nil_append];have hml:dm.length≤M+2:=by omega
  have c2:dm.length+1≤9223372036854775807:=by have:=HM.out;omega
  have e2:(⟨dm.toArray⟩:ByteArray) ++ ⟨#[47]⟩=⟨(dm ++ [47]).toArray⟩:=str_append dm [47];have c3:(dm ++ [47]).length+dd.length≤9223372036854775807:=by rw [List.length_append];have:=HM.out;simp;omega
  have c4:dm.length+1+dd.length≤9223372036854775807:=by have:=HM.out;omega
  have e3:(⟨(dm ++ [47]).toArray⟩:ByteArray) ++ ⟨dd.toArray⟩=⟨(dm ++ 47 :: dd).toArray⟩:=by rw [str_append];simp
  go_enter Tryz.func93,Tryz.ntmps93
  go_wp2_with fail;refine(decimal_r M HM.out _ (x.num.natAbs) _ ((HXT.out.mono K0.out)) B1.out).mono ?_
  rintro e w1 ⟨rfl,h2⟩;have K1:=ZZ (ak R0.out h2);clear h2;rw [←HDL.out];have z1:=HS.out _ K1.out;go_wp2_with fail;refine(is1_r _ x.den false (by first|exact decide_eq_true H1.out|exact decide_eq_false H1.out) _ (by rw [←HBN.out];exact HXB.out.mono (ak K0.out K1.out))).mono ?_;rintro e wi ⟨rfl,rfl⟩;go_wp2_with fail;refine(decimal_r M HM.out _ x.den _ (by rw [←HBN.out];exact HXB.out.mono (ak K0.out K1.out)) B2.out).mono ?_;rintro e w2 ⟨rfl,h2⟩;have K2:=ZZ (ak K1.out h2);clear h2;rw [←HDD.out];have z2:=HS.out _ K2.out;go_wp2_with fail;go_ret;exact⟨rfl,ak K0.out K2.out⟩
theorem text_r (M:Nat) (hM:M≤1099511627776) (vx:Value) (x:Rat) (w:World) (hx:Nr w vx x) (bx:Bq M x):Calls Tryz.prog 93 #[vx] w fun e w'=>e=.returned (.string ⟨(txt x).toArray⟩)∧Ext w w':=by
 by_cases h0:x=0
 ·exact text_zero M hM vx x h0 w hx bx
 ·have hp:∃(c:Int) (pre:List UInt8),x.num.sign=c∧(c<0∧pre=[45]∨0<c∧pre=[])∧(if x.num<0 then [45] else [])=pre:=by
   by_cases h:x.num<0
   ·exact⟨-1,[45],sign_neg h,.inl ⟨by omega,rfl⟩,by rw [if_pos h]⟩
   ·exact⟨1,[],sign_pos h h0,.inr ⟨by omega,rfl⟩,by rw [if_neg h]⟩
  obtain⟨c,pre,hc,hp,he⟩:=hp;unfold txt;rw [he]
  by_cases h1:x.den=1
  ·have h:=text_whole M hM vx x h0 c hc pre hp h1 w hx bx
   rw [if_pos h1,List.append_nil];exact h
  ·have h:=text_frac M hM vx x h0 c hc pre hp h1 w hx bx
   rw [if_neg h1];exact h
end Go.Proofs.YtoefieefcndlkaaGreatDoor
set_option linter.unusedVariables false
set_option maxRecDepth 100000
set_option maxHeartbeats 64000000
namespace Go.Proofs.YtoefieefcndlkaaGreatDoor
open Go.RowKit
set_option linter.unusedSimpArgs false
theorem divU_len (n:Nat) (quo rest q:List Rat):(divU n quo rest q).1.length=quo.length∧(divU n quo rest q).2.length≤rest.length:=by
 induction n generalizing quo rest with
 | zero=>exact⟨rfl,Nat.le_refl _⟩
 | succ n ih=>
  unfold divU
  split
  ·exact⟨rfl,Nat.le_refl _⟩
  ·obtain⟨h1,h2⟩:=ih (quo.set (rest.length - q.length) (topF rest / topF q)) (nextR rest q)
   refine⟨by rw [h1,List.length_set],Nat.le_trans h2 ?_⟩;unfold nextR
   have:=trim_le (lesL rest q (rest.length - q.length) (topF rest / topF q) q.length)
   rwa [les_len] at this
theorem div_len (p q:List Rat):(divF p q).1.length≤p.length+1∧(divF p q).2.length≤p.length:=by
 obtain⟨h1,h2⟩:=divU_len ((trimF p).length+1) (List.replicate ((trimF p).length+1 - (trimF q).length) 0) (trimF p) (trimF q);have h3:=trim_le p;refine⟨?_,Nat.le_trans h2 h3⟩;have h4:=trim_le (divU ((trimF p).length+1) (List.replicate ((trimF p).length+1 - (trimF q).length) 0) (trimF p) (trimF q)).1;rw [h1,List.length_replicate] at h4;have h5:(divF p q).1.length≤(trimF p).length+1 - (trimF q).length:=h4;omega
theorem scale_len (p:List Rat) (x:Rat):(scaleF p x).length≤p.length:=by
 have:=trim_le (p.map (·*x));rwa [List.length_map] at this
theorem monic_len (p:List Rat):(monicF p).length≤p.length:=by
 unfold monicF
 split
 ·exact Nat.zero_le _
 ·exact Nat.le_trans (scale_len _ _) (trim_le p)
theorem trim_monic (p:List Rat):trimF (monicF p)=monicF p:=by
 unfold monicF
 split
 ·rfl
 ·exact trim_trim _
def comU:Nat→List Rat→List Rat→List Rat
 | 0,p,_=>p
 | n+1,p,q=>if q=[] then p else comU n q (monicF (divF p q).2)
def commonF (p q:List Rat):List Rat:=comU (q.length+1) (monicF p) (monicF q)
def comB (M:Nat):Nat→List Rat→List Rat→Bool
 | 0,_,q=>q.isEmpty
 | n+1,p,q=>q.isEmpty || (divOk M p q && smB M (divF p q).2 && comB M n q (monicF (divF p q).2))
def comOk (M:Nat) (p q:List Rat):Bool:=smB M p && smB M q && comB M (q.length+1) (monicF p) (monicF q)
theorem comU_len (n:Nat) (p q:List Rat) (N:Nat) (hp:p.length≤N) (hq:q.length≤N):(comU n p q).length≤N:=by
 induction n generalizing p q with
 | zero=>exact hp
 | succ n ih=>
  unfold comU
  split
  ·exact hp
  ·exact ih _ _ hq (Nat.le_trans (monic_len _) (Nat.le_trans (div_len p q).2 hp))
theorem common_len (p q:List Rat) (N:Nat) (hp:p.length≤N) (hq:q.length≤N):(commonF p q).length≤N:=comU_len _ _ _ N (Nat.le_trans (monic_len p) hp) (Nat.le_trans (monic_len q) hq)
theorem common_p (M:Nat) (hM0:0<M) (hM:M≤137438953472) (vp vq:Value) (p q:List Rat) (hlp:p.length≤100000) (hlq:q.length≤100000) (w:World) (hp:Pl w vp p) (hq:Pl w vq q) (hok:comOk M p q=true):Calls Tryz.prog 36 #[vp,vq] w fun e w'=>∃v,e=.returned v∧Pl w' v (commonF p q)∧Ext w w':=by
 unfold comOk at hok;rw [Bool.and_eq_true,Bool.and_eq_true] at hok;obtain⟨⟨hsp,hsq⟩,hcb⟩:=hok;obtain⟨D,hD⟩:∃D,commonF p q=D:=⟨_,rfl⟩;have HD:=ZZ hD;have HP:=ZZ hp;have HQ:=ZZ hq;have HLP:=ZZ hlp;have HLQ:=ZZ hlq;have HSP:=ZZ (sm_of hsp);have HSQ:=ZZ (sm_of hsq);have HCB:=ZZ hcb;have HM0:=ZZ hM0;have HM:=ZZ hM;clear hp hq hlp hlq hsp hsq hcb hM0 hM;rw [hD];clear hD
 go_enter Tryz.func36,Tryz.ntmps36
 go_wp2_with fail;refine(monic_p M (by have:=HM.out;omega) _ p (by have:=HLP.out;omega) _ HP.out HSP.out).mono ?_
 rintro e w1 ⟨v1,rfl,h1,k1⟩;have H1:=ZZ h1.pl;have K1:=ZZ k1;clear h1 k1;go_wp2_with fail;refine(monic_p M (by have:=HM.out;omega) _ q (by have:=HLQ.out;omega) _ (HQ.out.mono K1.out) HSQ.out).mono ?_;rintro e w2 ⟨v2,rfl,h2,k2⟩;have H2:=ZZ h2.pl;have H1':=ZZ (H1.out.mono k2);have K2:=ZZ (ak K1.out k2);clear h2 k2;go_wp2_with fail
 go_loopg [0,1] (q.length+1) (fun k a b wr=>∃(P Q:List Rat),Hid (trimF Q=Q)∧Hid (P.length≤100000)∧Hid (Q.length≤100000)∧Hid (comB M k P Q=true)∧Hid (comU k P Q=D)∧Hid (Pl wr a P)∧Hid (Pl wr b Q)∧Hid (Ext w wr))
 case atStart=>exact⟨monicF p,monicF q,ZZ (trim_monic q),ZZ (Nat.le_trans (monic_len p) HLP.out),ZZ (Nat.le_trans (monic_len q) HLQ.out),HCB,HD,H1',H2,K2⟩
 case round=>
  obtain⟨P,Q,HTQ,HPL,HQL,HB,HU,HPP,HPQ,HE⟩:=hrel;rename World=>WR;obtain⟨Aq,cq,eq,-,-⟩:=HPQ.out;subst eq;obtain⟨lq,hlq⟩:∃l,Q.length=l:=⟨_,rfl⟩;rw [hlq] at HPQ ⊢;have HLQ1:=ZZ hlq;clear hlq
  rcases Nat.eq_zero_or_pos lq with hz|hz
  ·subst hz
   have HQ0:=ZZ (List.length_eq_zero_iff.1 HLQ1.out)
   have HDP:=ZZ (show P=D from by
    rw [←HU.out]
    cases gk with
    | zero=>rfl
    | succ k=>exact(if_pos HQ0.out).symm)
   go_wp2_with fail;go_ret
   exact⟨_,rfl,by rw [←HDP.out];exact HPP.out,HE.out⟩
  ·have hne:Q≠[]:=fun e=>by have:=HLQ1.out;rw [e] at this;simp at this;omega
   have hie:Q.isEmpty=false:=by cases Q with|nil=>exact absurd rfl hne|cons a l=>rfl
   obtain⟨ko,rfl⟩:∃k,gk=k+1:=⟨gk - 1,by
    rcases Nat.eq_zero_or_pos gk with h|h
    ·subst h
     have h1:Q.isEmpty=true:=HB.out;rw [hie] at h1;cases h1
    ·omega⟩
   have hb2:(Q.isEmpty || (divOk M P Q && smB M (divF P Q).2 && comB M ko Q (monicF (divF P Q).2)))=true:=HB.out;rw [hie,Bool.false_or,Bool.and_eq_true,Bool.and_eq_true] at hb2;have HB2:=ZZ hb2
   have HU2:=ZZ (show comU ko Q (monicF (divF P Q).2)=D from by
    have h:(if Q=[] then P else comU ko Q (monicF (divF P Q).2))=D:=HU.out;rw [if_neg hne] at h;exact h)
   have HNE:=ZZ hne;have q1:decide ((0:Int)<(lq:Int))=true:=decide_eq_true (by omega);have q1':decide (0<lq)=true:=decide_eq_true hz;clear hne hie hb2 hz;go_wp2_with fail;refine(divided_p M HM0.out (by have:=HM.out;omega) _ _ P Q HPL.out HQL.out _ HPP.out HPQ.out (by rw [HTQ.out];exact HNE.out) HB2.out.1.1).mono ?_;rintro e w3 ⟨v3,v4,rfl,h3,h4,k3⟩;have H4:=ZZ h4.pl;have K3:=ZZ k3;clear h3 h4 k3;go_wp2_with fail;refine(monic_p M (by have:=HM.out;omega) _ (divF P Q).2 (by have h1:=(div_len P Q).2;have h2:=HPL.out;omega) _ H4.out (sm_of HB2.out.1.2)).mono ?_;rintro e w5 ⟨v5,rfl,h5,k5⟩;have H5:=ZZ h5.pl;have K5:=ZZ (ak K3.out k5);clear h5 k5;go_wp2_with fail
   go_roundg ko
   case measure=>omega
   case rel=>exact⟨Q,monicF (divF P Q).2,ZZ (trim_monic _),HQL,ZZ (Nat.le_trans (monic_len _) (Nat.le_trans (div_len P Q).2 HPL.out)),ZZ HB2.out.2,HU2,ZZ (HPQ.out.mono K5.out),H5,ZZ (ak HE.out K5.out)⟩
theorem exact_p (M:Nat) (hM0:0<M) (hM:M≤137438953472) (vp vq:Value) (p q:List Rat) (hlp:p.length≤100000) (hlq:q.length≤100000) (w:World) (hp:Pl w vp p) (hq:Pl w vq q) (hq0:trimF q≠[]) (hok:divOk M p q=true):Calls Tryz.prog 40 #[vp,vq] w fun e w'=>∃v,e=.returned v∧Pl w' v (divF p q).1∧Ext w w':=by
 have HP:=ZZ hp;have HQ:=ZZ hq;have HLP:=ZZ hlp;have HLQ:=ZZ hlq;have HQ0:=ZZ hq0;have HOK:=ZZ hok;have HM0:=ZZ hM0;have HM:=ZZ hM;clear hp hq hlp hlq hq0 hok hM0 hM
 go_enter Tryz.func40,Tryz.ntmps40
 go_wp2_with fail;refine(divided_p M HM0.out (by have:=HM.out;omega) _ _ p q HLP.out HLQ.out _ HP.out HQ.out HQ0.out HOK.out).mono ?_
 rintro e w3 ⟨v3,v4,rfl,h3,h4,k3⟩;have H3:=ZZ h3.pl;have K3:=ZZ k3;clear h3 h4 k3;go_wp2_with fail;go_ret;exact⟨_,rfl,H3.out,K3.out⟩
def simpleF (p:List Rat):List Rat:=(divF p (commonF p (derivF p))).1
def simpleOk (M:Nat) (p:List Rat):Bool:=smB M p && comOk M p (derivF p) && !(trimF (commonF p (derivF p))).isEmpty && divOk M p (commonF p (derivF p))
theorem deriv_len (p:List Rat):(derivF p).length≤p.length:=by
 have:=trim_le (derU p p.length)
 rw [derU_len] at this;exact Nat.le_trans this (Nat.sub_le _ _)
theorem ne_of_emp {l:List Rat} (h:(!l.isEmpty)=true):l≠[]:=fun e=>by rw [e] at h;cases h
theorem simple_p (M:Nat) (hM0:0<M) (hM:M≤137438953472) (vp:Value) (p:List Rat) (hlp:p.length≤100000) (w:World) (hp:Pl w vp p) (hok:simpleOk M p=true):Calls Tryz.prog 106 #[vp] w fun e w'=>∃v,e=.returned v∧Pl w' v (simpleF p)∧Ext w w':=by
 unfold simpleOk at hok;rw [Bool.and_eq_true,Bool.and_eq_true,Bool.and_eq_true] at hok;obtain⟨⟨⟨h1,h2⟩,h3⟩,h4⟩:=hok;have HP:=ZZ hp;have HLP:=ZZ hlp;have HS:=ZZ (sm_of h1);have HC:=ZZ h2;have HNE:=ZZ (ne_of_emp h3);have HDV:=ZZ h4;have HM0:=ZZ hM0;have HM:=ZZ hM;clear hp hlp h1 h2 h3 h4 hM0 hM
 go_enter Tryz.func106,Tryz.ntmps106
 go_wp2_with fail;refine(deriv_p M HM0.out (by have:=HM.out;omega) _ p (by have:=HLP.out;omega) _ HP.out HS.out).mono ?_
 rintro e w3 ⟨v3,rfl,h3,k3⟩;have H3:=ZZ h3.pl;have K3:=ZZ k3;clear h3 k3;go_wp2_with fail;refine(common_p M HM0.out HM.out _ _ p (derivF p) HLP.out (Nat.le_trans (deriv_len p) HLP.out) _ (HP.out.mono K3.out) H3.out HC.out).mono ?_;rintro e w4 ⟨v4,rfl,h4,k4⟩;have H4:=ZZ h4;have K4:=ZZ (ak K3.out k4);clear h4 k4;go_wp2_with fail;refine(exact_p M HM0.out HM.out _ _ p (commonF p (derivF p)) HLP.out (common_len _ _ _ HLP.out (Nat.le_trans (deriv_len p) HLP.out)) _ (HP.out.mono K4.out) H4.out HNE.out HDV.out).mono ?_;rintro e w5 ⟨v5,rfl,h5,k5⟩;have H5:=ZZ h5;have K5:=ZZ (ak K4.out k5);clear h5 k5;go_wp2_with fail;go_ret;exact⟨_,rfl,H5.out,K5.out⟩
end Go.Proofs.YtoefieefcndlkaaGreatDoor
