/- The reference's numbers: sums, differences. Printed by gen_rt.py. -/
import Derived.Test.YtoefieefcndlkaaGreatDoorGYh
import Derived.Deep.DeepCutAuto
set_option linter.unusedVariables false
set_option maxRecDepth 100000
set_option maxHeartbeats 64000000
namespace Go.Proofs.YtoefieefcndlkaaGreatDoor
open Go.RowKit
def AddC (w:World) (vx vy v:Value):Prop:=∀C:Nat→Prop,(∀b,w.heap.size≤b→C b)→BlN C vx→BlN C vy→BlN C v
theorem ext3r (w:World) (a b c:Obj):Ext w (((w.alloc a).alloc b).alloc c):=ak (ab _ _) (ak (ab _ _) (ab _ _))
theorem add_n_left (vx vy:Value) (x y:Rat) (w:World) (hx:Nr w vx x) (hy:Nr w vy y) (h0:x=0):Calls Tryz.prog 138 #[vx,vy] w fun e w'=>∃v,e=.returned v∧Nr w' v y∧Ext w w'∧AddC w vx vy v:=by
 obtain⟨s1,A,k,ca,B,l,cb,rfl,hs1,hxt,hxb⟩:=hx.form;obtain⟨s2,C,m,cc,D,n,cd,rfl,hs2,hyt,hyb⟩:=hy.form;obtain⟨hS,hZ,hw1,hw2,hsz,hsz1⟩:=setupR2 w (.int .i64 s1) (.slice A k ca) (.slice B l cb) (.int .i64 s2) (.slice C m cc) (.slice D n cd);have HS:=ZZ hS;have HZ:=ZZ hZ;have HW1:=ZZ hw1;have HW2:=ZZ hw2;have Hsz1:=ZZ hsz1;have Hx:=ZZ hx;have Hy:=ZZ hy;have HXT:=ZZ hxt;have HYT:=ZZ hyt;have HS1:=ZZ hs1;have HS2:=ZZ hs2;subst h0;obtain rfl:s1=0:=hs1.symm;have hc0:=hS _ hw2;clear hx hy hxt hxb hyt hyb hS hZ hw1 hw2 hsz hsz1 hs1 hs2
 go_enter Tryz.func138,Tryz.ntmps138
 go_wp2_with fail;refine bodyPost_ret (v:=.agg #[.int .i64 s2,.slice C m cc,.slice D n cd]) (by simp [results,Tryz.f138];go_simp) rfl ?_
 exact⟨_,rfl,Hy.out.mono (ext3r _ _ _ _),ext3r _ _ _ _,fun C _ _ hy=>hy⟩
theorem add_n_right (vx vy:Value) (x y:Rat) (w:World) (hx:Nr w vx x) (hy:Nr w vy y) (hx0:x≠0) (h0:y=0):Calls Tryz.prog 138 #[vx,vy] w fun e w'=>∃v,e=.returned v∧Nr w' v x∧Ext w w'∧AddC w vx vy v:=by
 obtain⟨s1,A,k,ca,B,l,cb,rfl,hs1,hxt,hxb⟩:=hx.form;obtain⟨s2,C,m,cc,D,n,cd,rfl,hs2,hyt,hyb⟩:=hy.form;obtain⟨hS,hZ,hw1,hw2,hsz,hsz1⟩:=setupR2 w (.int .i64 s1) (.slice A k ca) (.slice B l cb) (.int .i64 s2) (.slice C m cc) (.slice D n cd);have HS:=ZZ hS;have HZ:=ZZ hZ;have HW1:=ZZ hw1;have HW2:=ZZ hw2;have Hsz1:=ZZ hsz1;have Hx:=ZZ hx;have Hy:=ZZ hy;have HXT:=ZZ hxt;have HYT:=ZZ hyt;have HS1:=ZZ hs1;have HS2:=ZZ hs2;subst h0;obtain rfl:s2=0:=hs2.symm
 have hz0:(s1 == 0)=false:=by
  rw [beq_eq_false_iff_ne,←hs1];intro e;exact hx0 (Rat.num_eq_zero.1 (Int.sign_eq_zero_iff_zero.1 e))
 clear hx0;have hc0:=hS _ hw2;clear hx hy hxt hxb hyt hyb hS hZ hw1 hw2 hsz hsz1 hs1 hs2
 go_enter Tryz.func138,Tryz.ntmps138
 go_wp2_with fail;refine bodyPost_ret (v:=.agg #[.int .i64 s1,.slice A k ca,.slice B l cb]) (by simp [results,Tryz.f138];go_simp) rfl ?_
 exact⟨_,rfl,Hx.out.mono (ext3r _ _ _ _),ext3r _ _ _ _,fun C _ hx _=>hx⟩
theorem add_n_main (M:Nat) (hM:M≤274877906944) (vx vy:Value) (x y:Rat) (w:World) (hx:Nr w vx x) (hy:Nr w vy y) (bx:Bq M x) (by_:Bq M y) (hx0:x≠0) (hy0:y≠0):Calls Tryz.prog 138 #[vx,vy] w fun e w'=>∃v,e=.returned v∧Nr w' v (x+y)∧Ext w w'∧AddC w vx vy v:=by
 obtain⟨s1,A,k,ca,B,l,cb,rfl,hs1,hxt,hxb⟩:=hx.form;obtain⟨s2,C,m,cc,D,n,cd,rfl,hs2,hyt,hyb⟩:=hy.form;obtain⟨hS,hZ,hw1,hw2,hsz,hsz1⟩:=setupR2 w (.int .i64 s1) (.slice A k ca) (.slice B l cb) (.int .i64 s2) (.slice C m cc) (.slice D n cd);have HS:=ZZ hS;have HZ:=ZZ hZ;have HW1:=ZZ hw1;have HW2:=ZZ hw2;have Hsz1:=ZZ hsz1;have Hx:=ZZ hx;have Hy:=ZZ hy;have HXT:=ZZ hxt;have HYT:=ZZ hyt;have HS1:=ZZ hs1;have HS2:=ZZ hs2;have HXB:=ZZ hxb;have HYB:=ZZ hyb;rw [bn_ne hx0] at HXB;rw [bn_ne hy0] at HYB
 have hz1:(s1 == 0)=false:=by
  rw [beq_eq_false_iff_ne,←hs1];intro e;exact hx0 (Rat.num_eq_zero.1 (Int.sign_eq_zero_iff_zero.1 e))
 have hz2:(s2 == 0)=false:=by
  rw [beq_eq_false_iff_ne,←hs2];intro e;exact hy0 (Rat.num_eq_zero.1 (Int.sign_eq_zero_iff_zero.1 e))
 have HQ1:=ZZ ((sign_sgnB hx0).symm.trans hs1);have HQ2:=ZZ ((sign_sgnB hy0).symm.trans hs2);have HSAME:=ZZ (add_same x y);have HMORE:=ZZ (add_more x y);have HLESS:=ZZ (add_less x y);generalize decide (x.num<0)=b1 at *;generalize decide (y.num<0)=b2 at *;have S3:=ZZ (sr_bits bx.1 (by omega));have S4:=ZZ (sr_bits bx.2 (by omega));have S5:=ZZ (sr_bits by_.1 (by omega));have S6:=ZZ (sr_bits by_.2 (by omega));have D0:=ZZ (Nat.mul_pos x.den_pos y.den_pos);obtain⟨na,hna⟩:∃a,x.num.natAbs*y.den=a:=⟨_,rfl⟩;obtain⟨nb,hnb⟩:∃a,y.num.natAbs*x.den=a:=⟨_,rfl⟩;obtain⟨nd,hnd⟩:∃a,x.den*y.den=a:=⟨_,rfl⟩;have ba:na<2 ^ (M+M):=by rw [←hna];exact lt_mul bx.1 by_.2
 have bb:nb<2 ^ (M+M):=by rw [←hnb];exact lt_mul by_.1 bx.2
 have bd:nd<2 ^ (M+M):=by rw [←hnd];exact lt_mul bx.2 by_.2
 have SA:=ZZ (sr_bits ba (by omega));have SB:=ZZ (sr_bits bb (by omega));have LD:=ZZ (show (dr nd).length≤34359738368 from Nat.le_trans (dr_bits bd) (by omega));have LS:=ZZ (show (dr (na+nb)).length≤34359738368 from Nat.le_trans (dr_bits (lt_add ba bb)) (by omega));have LM:=ZZ (show (dr (na - nb)).length≤34359738368 from Nat.le_trans (dr_bits (show na - nb<2 ^ (M+M) by omega)) (by omega));have LN:=ZZ (show (dr (nb - na)).length≤34359738368 from Nat.le_trans (dr_bits (show nb - na<2 ^ (M+M) by omega)) (by omega));rw [hna,hnb,hnd] at HSAME HMORE HLESS;rw [hnd] at D0;have HNA:=ZZ hna;have HNB:=ZZ hnb;have HND:=ZZ hnd;clear hx hy hxt hxb hyt hyb hS hZ hw1 hw2 hsz hsz1 hs1 hs2;clear hx0 hy0 bx by_ hM hna hnb hnd ba bb bd
 go_enter Tryz.func138,Tryz.ntmps138
 go_upto_region 5 with (fail)
 generalize World.alloc (World.alloc (World.alloc w (.cells #[.int .i64 s1,.slice A k ca,.slice B l cb] _)) (.cells #[.int .i64 s2,.slice C m cc,.slice D n cd] _)) _=W2 at *;generalize World.alloc (World.alloc w (.cells #[.int .i64 s1,.slice A k ca,.slice B l cb] _)) (.cells #[.int .i64 s2,.slice C m cc,.slice D n cd] _)=W1 at *;generalize hg0:w.heap.size=g0 at *;have Hsz:=ZZ (show w.heap.size≤g0+1+1 by omega);clear hg0;have hww:=ZZ (ak HW1.out HW2.out)
 go_cut [5,6,7] (fun p q r wx=>p=.slice A k ca∧q=.slice C m cc∧r=.slice B l cb∧Hid (Ext W2 wx))
 case first=>
  obtain⟨a0,a1,a2,a3,a4,a5⟩:=HS.out W2 HW2.out
  go_big_region
  all_goals
   go_wp2_with fail;go_meet
   exact⟨rfl,rfl,rfl,ZZ (ac W2)⟩
 case rest=>
  obtain⟨rfl,rfl,rfl,hx0⟩:=hcut;rename World=>W3;have hc0:=HS.out W3 (ak HW2.out hx0.out)
  go_upto_region 6 with (fail)
  obtain⟨bb,hbb⟩:∃b,b=!(decide (x.den=1) && decide (y.den=1)):=⟨_,rfl⟩
  go_cut [31] (fun v wx=>v=.bool bb∧W3=wx)
  case first=>
   obtain⟨a0,a1,a2,a3,a4,a5⟩:=hc0
   by_cases d1:x.den=1
   ·have D1:=ZZ d1
    go_wp2_with fail;refine(is1_r _ x.den true (decide_eq_true D1.out) _ (HXB.out.mono (ak hww.out hx0.out))).mono ?_
    rintro e wi ⟨rfl,rfl⟩
    by_cases d2:y.den=1
    ·have D2:=ZZ d2
     have hbf:bb=false:=by rw [hbb,decide_eq_true d1,decide_eq_true d2];rfl
     clear hbb d1 d2;go_wp2_with fail;refine(is1_r _ y.den true (decide_eq_true D2.out) _ (HYB.out.mono (ak hww.out hx0.out))).mono ?_;rintro e wi ⟨rfl,rfl⟩;go_wp2_with fail;go_meet;exact⟨by rw [hbf],rfl⟩
    ·have D2:=ZZ d2
     have hbf:bb=true:=by rw [hbb,decide_eq_false d2,Bool.and_false];rfl
     clear hbb d1 d2;go_wp2_with fail;refine(is1_r _ y.den false (decide_eq_false D2.out) _ (HYB.out.mono (ak hww.out hx0.out))).mono ?_;rintro e wi ⟨rfl,rfl⟩;go_wp2_with fail;go_meet;exact⟨by rw [hbf],rfl⟩
   ·have D1:=ZZ d1
    have hbf:bb=true:=by rw [hbb,decide_eq_false d1,Bool.false_and];rfl
    clear hbb d1;go_wp2_with fail;refine(is1_r _ x.den false (decide_eq_false D1.out) _ (HXB.out.mono (ak hww.out hx0.out))).mono ?_;rintro e wi ⟨rfl,rfl⟩;go_wp2_with fail;go_meet;exact⟨by rw [hbf],rfl⟩
  case rest=>
  obtain⟨rfl,rfl⟩:=hcut
  go_upto_if 31 with (fail)
  go_cut [5,6,7] (fun p q r wx=>Hid (Wr wx p na)∧Hid (Wr wx q nb)∧Hid (Wr wx r nd)∧Hid (Ext W2 wx)∧Hid (∀C:Nat→Prop,(∀b,w.heap.size≤b→C b)→BlN C (.agg #[.int .i64 s1,.slice A k ca,.slice B l cb])→BlC C r))
  case first=>
   cases hb:bb
   ·subst hb
    have D1:=ZZ (show x.den=1 by by_cases h:x.den=1;exact h;rw [decide_eq_false h] at hbb;simp at hbb);have D2:=ZZ (show y.den=1 by by_cases h:y.den=1;exact h;rw [decide_eq_false h] at hbb;simp at hbb);clear hbb;go_wp2_with fail;go_meet;refine⟨ZZ ?_,ZZ ?_,ZZ ?_,hx0,ZZ (fun C _ hx=>(hx _ _ _ _ _ _ _ rfl).2)⟩
    ·rw [←HNA.out,D2.out,Nat.mul_one];exact HXT.out.mono (ak hww.out hx0.out)
    ·rw [←HNB.out,D1.out,Nat.mul_one];exact HYT.out.mono (ak hww.out hx0.out)
    ·rw [←HND.out,D2.out,Nat.mul_one];exact HXB.out.mono (ak hww.out hx0.out)
   ·subst hb
    clear hbb;go_wp2_with fail;obtain⟨a0,a1,a2,a3,a4,a5⟩:=hc0;clear a0 a1 a2 a3 a4 a5;have hS0:=HS.out W3 (ak HW2.out hx0.out);have hx1:=ZZ (ak hx0.out (ac W3))
    go_region_held3 (fun W=>W.cell? ⟨g0,0,none⟩=some (.int .i64 s1)∧W.cell? ⟨g0,1,none⟩=some (.slice A k ca)∧W.cell? ⟨g0,2,none⟩=some (.slice B l cb)∧W.cell? ⟨g0+1,0,none⟩=some (.int .i64 s2)∧W.cell? ⟨g0+1,1,none⟩=some (.slice C m cc)∧W.cell? ⟨g0+1,2,none⟩=some (.slice D n cd))
     (first
      | exact HS.out _ (ak HW2.out hx4.out)
      | exact HS.out _ (ak HW2.out hx3.out)
      | exact HS.out _ (ak HW2.out hx2.out)
      | exact HS.out _ (ak HW2.out hx1.out))
     (first
      |(have _q:=hx3
        go_at_call 126
        refine(times_f _ _ (x.den) (y.den) _ (HXB.out.mono (ak hww.out hx3.out)) (HYB.out.mono (ak hww.out hx3.out)) S4.out S6.out).mono ?_;clear _q;rintro e wc3 ⟨v3,rfl,h3,k2,fr3⟩;have F3:=ZZ (fr3.mono (ak hww.out hx3.out).size);clear fr3;obtain⟨P3,p3,c3,rfl⟩:=h3.form';have J3:=ZZ h3;have J1t:=ZZ (J1'.out.mono k2);have J2':=ZZ (J2.out.mono k2);have hx4:=ZZ (ak hx3.out k2);clear h3 k2)
      |(have _q:=hx2
        go_at_call 126
        refine(times_r _ _ (y.num.natAbs) (x.den) _ (HYT.out.mono (ak hww.out hx2.out)) (HXB.out.mono (ak hww.out hx2.out)) S5.out S4.out).mono ?_;clear _q;rintro e wc2 ⟨v2,rfl,h3,k2⟩;obtain⟨P2,p2,c2,rfl⟩:=h3.form';have J2:=ZZ h3;have J1':=ZZ (J1.out.mono k2);have hx3:=ZZ (ak hx2.out k2);clear h3 k2)
      |(have _q:=hx1
        go_at_call 126
        refine(times_r _ _ (x.num.natAbs) (y.den) _ (HXT.out.mono (ak hww.out hx1.out)) (HYB.out.mono (ak hww.out hx1.out)) S3.out S6.out).mono ?_;clear _q;rintro e wc1 ⟨v1,rfl,h3,k2⟩;obtain⟨P1,p1,c1,rfl⟩:=h3.form';have J1:=ZZ h3;have hx2:=ZZ (ak hx1.out k2);clear h3 k2))
    all_goals
     go_wp2_with fail;go_meet
     rw [HNA.out] at J1t;rw [HNB.out] at J2';rw [HND.out] at J3;exact⟨J1t,J2',J3,hx4,ZZ (fun C hC _=>F3.out.blc hC)⟩
  case rest=>
  rename World=>W4
  rename_i p q r
  obtain⟨HP,HQQ,HR,HX4,HFR⟩:=hcut;obtain⟨P1,p1,c1,rfl⟩:=HP.out.form';obtain⟨P2,p2,c2,rfl⟩:=HQQ.out.form';obtain⟨P3,p3,c3,rfl⟩:=HR.out.form';have hxa:=ZZ (show Ext W2 W4 from HX4.out);clear hc0 hbb hx0;have hS4:=HS.out W4 (ak HW2.out hxa.out)
  by_cases hb:b1=b2
  ·have HE:=ZZ (HSAME.out hb)
   have t1:(s1 == s2)=true:=by rw [beq_iff_eq,←HQ1.out,←HQ2.out,hb]
   clear hb HMORE HLESS HSAME;go_wp2_with fail;have hS0:=HS.out W4 (ak HW2.out hxa.out);have hx1:=ZZ (ak hxa.out (ac W4));have e1:=ZZ (ac W4)
   go_region_held3 (fun W=>W.cell? ⟨g0,0,none⟩=some (.int .i64 s1)∧W.cell? ⟨g0,1,none⟩=some (.slice A k ca)∧W.cell? ⟨g0,2,none⟩=some (.slice B l cb)∧W.cell? ⟨g0+1,0,none⟩=some (.int .i64 s2)∧W.cell? ⟨g0+1,1,none⟩=some (.slice C m cc)∧W.cell? ⟨g0+1,2,none⟩=some (.slice D n cd))
    (first
     | exact HS.out _ (ao (ak HW2.out hx3.out) Hsz1.out _ _ _)
     | exact HS.out _ (ak HW2.out hx3.out)
     | exact HS.out _ (ak HW2.out hx2.out)
     | exact HS.out _ (ak HW2.out hx1.out))
    (first
     |(have _q:=hx2
       go_at_call 79
       refine(made_f b1 s1 HQ1.out _ _ (na+nb) nd D0.out _ J1.out JR.out LS.out LD.out).mono ?_;clear _q;rintro e wd2 ⟨v2,rfl,h7,k4,frm⟩;have FM:=ZZ (fun (C:Nat→Prop) hC hx=>frm.2 C (fun b hb=>hC b (Nat.le_trans (ak hww.out hx2.out).size hb)) (F1.out.blc hC) (HFR.out C hC hx));clear frm;obtain⟨s7,A7,k7,c8,B7,l7,d7,h7e,-⟩:=h7.form;subst h7e;have H7:=ZZ h7;have hx3:=ZZ (ak hx2.out k4);have hz:=HZ.out _ hx3.out;obtain⟨z0,z1,z2,f0,f1,f2⟩:=aj hz;have Hz:=ZZ hz;clear h7 k4 hz)
     |(have _q:=hx1
       go_at_call 125
       refine(plus_f _ _ na nb _ (HP.out.mono e1.out) (HQQ.out.mono e1.out) SA.out SB.out).mono ?_;clear _q;rintro e wd1 ⟨v1,rfl,h3,k2,fr1⟩;have F1:=ZZ (fr1.mono (ak hww.out hx1.out).size);clear fr1;obtain⟨P7,p7,c7,rfl⟩:=h3.form';have J1:=ZZ h3;have JR:=ZZ (HR.out.mono (ak e1.out k2));have hx2:=ZZ (ak hx1.out k2);clear h3 k2))
   go_wp2_with fail;refine bodyPost_ret (v:=.agg #[.int .i64 s7,.slice A7 k7 c8,.slice B7 l7 d7]) (by simp [results,Tryz.f138];go_simp) rfl ?_
   refine⟨_,rfl,?_,ao (ak hww.out hx3.out) Hsz.out _ _ _,fun C hC hx _=>FM.out C hC hx⟩;rw [←HE.out];exact Nr.put_z H7.out Hz.out _ _ _
  ·have hnb:b1=!b2:=by cases b1 <;> cases b2 <;> first|rfl|exact absurd rfl hb
   have t1:(s1 == s2)=false:=by
    rw [beq_eq_false_iff_ne,←HQ1.out,←HQ2.out,hnb,sgnB_neg]
    have:=sgnB_ne b2
    omega
   obtain⟨c,hc⟩:∃c,ordN na nb=c:=⟨_,rfl⟩;have HC:=ZZ hc;clear hb HSAME;go_wp2_with fail;refine(order_e _ _ na nb c HC.out _ HP.out HQQ.out SA.out SB.out).mono ?_;rintro e W5 ⟨rfl,k5⟩;have hxb:=ZZ (ak hxa.out k5);have HP5:=ZZ (HP.out.mono k5);have HQ5:=ZZ (HQQ.out.mono k5);have HR5:=ZZ (HR.out.mono k5);clear k5 hS4;have hS5:=HS.out W5 (ak HW2.out hxb.out)
   by_cases hlt:na<nb
   ·have t2:decide (c<0)=true:=by rw [←hc];exact decide_eq_true ((ord_neg _ _).2 hlt)
    have HE:=ZZ (HLESS.out hnb (Nat.le_of_lt hlt));have HLE:=ZZ (Nat.le_of_lt hlt);clear hlt hc HMORE HLESS hnb;go_wp2_with fail;have hS0:=HS.out W5 (ak HW2.out hxb.out);have hx1:=ZZ (ak hxb.out (ac W5));have e1:=ZZ (ac W5)
    go_region_held3 (fun W=>W.cell? ⟨g0,0,none⟩=some (.int .i64 s1)∧W.cell? ⟨g0,1,none⟩=some (.slice A k ca)∧W.cell? ⟨g0,2,none⟩=some (.slice B l cb)∧W.cell? ⟨g0+1,0,none⟩=some (.int .i64 s2)∧W.cell? ⟨g0+1,1,none⟩=some (.slice C m cc)∧W.cell? ⟨g0+1,2,none⟩=some (.slice D n cd))
     (first
      | exact HS.out _ (ao (ak HW2.out hx3.out) Hsz1.out _ _ _)
      | exact HS.out _ (ak HW2.out hx3.out)
      | exact HS.out _ (ak HW2.out hx2.out)
      | exact HS.out _ (ak HW2.out hx1.out))
     (first
      |(have _q:=hx2
        go_at_call 79
        refine(made_f b2 s2 HQ2.out _ _ (nb - na) nd D0.out _ J1.out JR.out LN.out LD.out).mono ?_;clear _q;rintro e wd2 ⟨v2,rfl,h7,k4,frm⟩;have FM:=ZZ (fun (C:Nat→Prop) hC hx=>frm.2 C (fun b hb=>hC b (Nat.le_trans (ak hww.out hx2.out).size hb)) (F1.out.blc hC) (HFR.out C hC hx));clear frm;obtain⟨s7,A7,k7,c8,B7,l7,d7,h7e,-⟩:=h7.form;subst h7e;have H7:=ZZ h7;have hx3:=ZZ (ak hx2.out k4);have hz:=HZ.out _ hx3.out;obtain⟨z0,z1,z2,f0,f1,f2⟩:=aj hz;have Hz:=ZZ hz;clear h7 k4 hz)
      |(have _q:=hx1
        go_at_call 132
        refine(minus_f _ _ nb na _ (HQ5.out.mono e1.out) (HP5.out.mono e1.out) SB.out HLE.out).mono ?_;clear _q;rintro e wd1 ⟨v1,rfl,h3,k2,fr1⟩;have F1:=ZZ (fr1.mono (ak hww.out hx1.out).size);clear fr1;obtain⟨P7,p7,c7,rfl⟩:=h3.form';have J1:=ZZ h3;have JR:=ZZ (HR5.out.mono (ak e1.out k2));have hx2:=ZZ (ak hx1.out k2);clear h3 k2))
    go_wp2_with fail;refine bodyPost_ret (v:=.agg #[.int .i64 s7,.slice A7 k7 c8,.slice B7 l7 d7]) (by simp [results,Tryz.f138];go_simp) rfl ?_
    refine⟨_,rfl,?_,ao (ak hww.out hx3.out) Hsz.out _ _ _,fun C hC hx _=>FM.out C hC hx⟩;rw [←HE.out];exact Nr.put_z H7.out Hz.out _ _ _
   ·have t2:decide (c<0)=false:=by rw [←hc];exact decide_eq_false (fun h=>hlt ((ord_neg _ _).1 h))
    have HE:=ZZ (HMORE.out hnb (by omega));have HLE:=ZZ (show nb≤na by omega);clear hlt hc HMORE HLESS hnb;go_wp2_with fail;have hS0:=HS.out W5 (ak HW2.out hxb.out);have hx1:=ZZ (ak hxb.out (ac W5));have e1:=ZZ (ac W5)
    go_region_held3 (fun W=>W.cell? ⟨g0,0,none⟩=some (.int .i64 s1)∧W.cell? ⟨g0,1,none⟩=some (.slice A k ca)∧W.cell? ⟨g0,2,none⟩=some (.slice B l cb)∧W.cell? ⟨g0+1,0,none⟩=some (.int .i64 s2)∧W.cell? ⟨g0+1,1,none⟩=some (.slice C m cc)∧W.cell? ⟨g0+1,2,none⟩=some (.slice D n cd))
     (first
      | exact HS.out _ (ao (ak HW2.out hx3.out) Hsz1.out _ _ _)
      | exact HS.out _ (ak HW2.out hx3.out)
      | exact HS.out _ (ak HW2.out hx2.out)
      | exact HS.out _ (ak HW2.out hx1.out))
     (first
      |(have _q:=hx2
        go_at_call 79
        refine(made_f b1 s1 HQ1.out _ _ (na - nb) nd D0.out _ J1.out JR.out LM.out LD.out).mono ?_;clear _q;rintro e wd2 ⟨v2,rfl,h7,k4,frm⟩;have FM:=ZZ (fun (C:Nat→Prop) hC hx=>frm.2 C (fun b hb=>hC b (Nat.le_trans (ak hww.out hx2.out).size hb)) (F1.out.blc hC) (HFR.out C hC hx));clear frm;obtain⟨s7,A7,k7,c8,B7,l7,d7,h7e,-⟩:=h7.form;subst h7e;have H7:=ZZ h7;have hx3:=ZZ (ak hx2.out k4);have hz:=HZ.out _ hx3.out;obtain⟨z0,z1,z2,f0,f1,f2⟩:=aj hz;have Hz:=ZZ hz;clear h7 k4 hz)
      |(have _q:=hx1
        go_at_call 132
        refine(minus_f _ _ na nb _ (HP5.out.mono e1.out) (HQ5.out.mono e1.out) SA.out HLE.out).mono ?_;clear _q;rintro e wd1 ⟨v1,rfl,h3,k2,fr1⟩;have F1:=ZZ (fr1.mono (ak hww.out hx1.out).size);clear fr1;obtain⟨P7,p7,c7,rfl⟩:=h3.form';have J1:=ZZ h3;have JR:=ZZ (HR5.out.mono (ak e1.out k2));have hx2:=ZZ (ak hx1.out k2);clear h3 k2))
    go_wp2_with fail;refine bodyPost_ret (v:=.agg #[.int .i64 s7,.slice A7 k7 c8,.slice B7 l7 d7]) (by simp [results,Tryz.f138];go_simp) rfl ?_
    refine⟨_,rfl,?_,ao (ak hww.out hx3.out) Hsz.out _ _ _,fun C hC hx _=>FM.out C hC hx⟩;rw [←HE.out];exact Nr.put_z H7.out Hz.out _ _ _
theorem add_f (M:Nat) (hM:M≤274877906944) (vx vy:Value) (x y:Rat) (w:World) (hx:Nr w vx x) (hy:Nr w vy y) (bx:Bq M x) (by_:Bq M y):Calls Tryz.prog 138 #[vx,vy] w fun e w'=>∃v,e=.returned v∧Nr w' v (x+y)∧Ext w w'∧AddC w vx vy v:=by
 by_cases hx0:x=0
 ·have h:=add_n_left vx vy x y w hx hy hx0
  rw [hx0,Rat.zero_add];exact h
 ·by_cases hy0:y=0
  ·have h:=add_n_right vx vy x y w hx hy hx0 hy0
   rw [hy0,Rat.add_zero];exact h
  ·exact add_n_main M hM vx vy x y w hx hy bx by_ hx0 hy0
theorem sub_f (M:Nat) (hM:M≤274877906944) (vx vy:Value) (x y:Rat) (w:World) (hx:Nr w vx x) (hy:Nr w vy y) (bx:Bq M x) (by_:Bq M y):Calls Tryz.prog 91 #[vx,vy] w fun e w'=>∃v,e=.returned v∧Nr w' v (x - y)∧Ext w w'∧AddC w vx vy v:=by
 obtain⟨s1,A,k,ca,B,l,cb,rfl,hs1,hxt,hxb⟩:=hx.form;obtain⟨s2,C,m,cc,D,n,cd,rfl,hs2,hyt,hyb⟩:=hy.form;obtain⟨hS,hZ,hw1,hw2,hsz,hsz1⟩:=setupR2 w (.int .i64 s1) (.slice A k ca) (.slice B l cb) (.int .i64 s2) (.slice C m cc) (.slice D n cd);have HS:=ZZ hS;have HZ:=ZZ hZ;have HW1:=ZZ hw1;have HW2:=ZZ hw2;have Hsz1:=ZZ hsz1;have Hx:=ZZ hx;have Hy:=ZZ hy;have HXT:=ZZ hxt;have HYT:=ZZ hyt;have HS1:=ZZ hs1;have HS2:=ZZ hs2;have BX:=ZZ bx;have BY:=ZZ by_.neg;have HM:=ZZ hM;have HE:=ZZ (Rat.sub_eq_add_neg x y);clear hx hy hxt hxb hyt hyb hS hZ hw1 hw2 hsz hsz1 hs1 hs2;clear bx by_ hM
 go_enter Tryz.func91,Tryz.ntmps91
 go_upto_region 1 with (fail)
 generalize World.alloc (World.alloc (World.alloc w (.cells #[.int .i64 s1,.slice A k ca,.slice B l cb] _)) (.cells #[.int .i64 s2,.slice C m cc,.slice D n cd] _)) _=W2 at *;generalize World.alloc (World.alloc w (.cells #[.int .i64 s1,.slice A k ca,.slice B l cb] _)) (.cells #[.int .i64 s2,.slice C m cc,.slice D n cd] _)=W1 at *;generalize hg0:w.heap.size=g0 at *;have Hsz:=ZZ (show w.heap.size≤g0+1+1 by omega);clear hg0;have hww:=ZZ (ak HW1.out HW2.out);have hS0:=HS.out W2 HW2.out;have hx1:=ZZ (ac W2)
 go_region_held3 (fun W=>W.cell? ⟨g0,0,none⟩=some (.int .i64 s1)∧W.cell? ⟨g0,1,none⟩=some (.slice A k ca)∧W.cell? ⟨g0,2,none⟩=some (.slice B l cb)∧W.cell? ⟨g0+1,0,none⟩=some (.int .i64 s2)∧W.cell? ⟨g0+1,1,none⟩=some (.slice C m cc)∧W.cell? ⟨g0+1,2,none⟩=some (.slice D n cd))
  (first
   | exact HS.out _ (ao (ak HW2.out hx3.out) Hsz1.out _ _ _)
   | exact HS.out _ (ak HW2.out hx3.out)
   | exact HS.out _ (ak HW2.out hx2.out)
   | exact HS.out _ (ak HW2.out hx1.out))
  (first
   |(have _q:=hx2
     go_at_call 138
     refine(add_f M HM.out _ _ x (-y) _ (Hx.out.mono (ak hww.out hx2.out)) J1.out BX.out BY.out).mono ?_;clear _q;rintro e w2 ⟨v2,rfl,h7,k4,f7⟩;obtain⟨s7,A7,k7,c7,B7,l7,d7,h7e,-⟩:=h7.form;subst h7e;have H7:=ZZ h7;have F7:=ZZ (show AddC w (.agg #[.int .i64 s1,.slice A k ca,.slice B l cb]) (.agg #[.int .i64 s2,.slice C m cc,.slice D n cd]) (.agg #[.int .i64 s7,.slice A7 k7 c7,.slice B7 l7 d7]) from fun C h1 h2 h3=>f7 C (fun b hb=>h1 b (Nat.le_trans (ak hww.out hx2.out).size hb)) h2 (F1.out C h3));have hx3:=ZZ (ak hx2.out k4);have hz:=HZ.out _ hx3.out;obtain⟨z0,z1,z2,f0,f1,f2⟩:=aj hz;have Hz:=ZZ hz;clear h7 k4 hz f7)
   |(have _q:=hx1
     go_at_call 139
     refine(neg_f _ y _ (Hy.out.mono (ak hww.out hx1.out))).mono ?_;clear _q;rintro e w1 ⟨v1,rfl,h3,k2,f1⟩;obtain⟨s5,A5,k5,c5,B5,l5,d5,h5e,-⟩:=h3.form;subst h5e;have J1:=ZZ h3;have F1:=ZZ f1;have hx2:=ZZ (ak hx1.out k2);clear h3 k2 f1))
 all_goals
  go_wp2_with fail;refine bodyPost_ret (v:=.agg #[.int .i64 s7,.slice A7 k7 c7,.slice B7 l7 d7]) (by simp [results,Tryz.f91];go_simp) rfl ?_
  refine⟨_,rfl,?_,ao (ak hww.out hx3.out) Hsz.out _ _ _,F7.out⟩;rw [HE.out];exact Nr.put_z H7.out Hz.out _ _ _
end Go.Proofs.YtoefieefcndlkaaGreatDoor
