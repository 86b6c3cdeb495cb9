/- The walk of PolyRing. Printed by gen_yx.py. -/
import Derived.Test.YtjamgccgoapbeaaGreatDoorGYz
import Derived.Test.YtjamgccgoapbeaaGreatDoorGZa
import Derived.Deep.DeepCutAuto
set_option linter.unusedVariables false
set_option maxRecDepth 100000
set_option maxHeartbeats 64000000
namespace Go.Proofs.YtjamgccgoapbeaaGreatDoor
open Go Go.RowKit
set_option linter.unusedSimpArgs false
def Nw (W0 W:World) (v:Value) (o:Obj):Prop:=∃g,v=.pointer (some ⟨g,0,none⟩)∧W0.heap.size≤g∧W.heap[g]?=some o
theorem Nw.mono {W0 W W':World} {v:Value} {o:Obj} (h:Nw W0 W v o) (k:Ext W W'):Nw W0 W' v o:=by
 obtain⟨g,e,h1,h2⟩:=h;exact⟨g,e,h1,(k.block _ (lt_of_block' h2)).trans h2⟩
theorem Nw.new {W0 W:World} (h:Ext W0 W) (o:Obj):Nw W0 (W.alloc o) (.pointer (some ⟨W.heap.size,0,none⟩)) o:=⟨_,rfl,h.size,heap_alloc_new _ _⟩
theorem Nw.ne {W0 W:World} {v:Value} {o:Obj} (h:Nw W0 W v o):v≠.pointer (some ⟨W.heap.size,0,none⟩):=by
 obtain⟨g,rfl,-,h2⟩:=h;intro e
 have:g=W.heap.size:=by injection e with e;injection e with e;injection e
 exact Nat.lt_irrefl _ (this ▸ lt_of_block' h2)
theorem ring_c (v0 v1 v2:Value) (l0 l1 l2:List (List UInt8)) (w:World) (h0:Stl w v0 l0) (h1:Stl w v1 l1) (h2:Stl w v2 l2) (ht:Tens w):Calls Tryz.prog 5 #[v0,v1,v2] w fun e w'=>e=.returned (.bool true)∧Ext w w':=by
 obtain⟨Q0,c0,rfl,m0⟩:=h0.form;obtain⟨Q1,c1,rfl,m1⟩:=h1.form;obtain⟨Q2,c2,rfl,m2⟩:=h2.form;obtain⟨n0,hn0⟩:∃n,l0.length=n:=⟨_,rfl⟩;obtain⟨n1,hn1⟩:∃n,l1.length=n:=⟨_,rfl⟩;obtain⟨n2,hn2⟩:∃n,l2.length=n:=⟨_,rfl⟩;rw [hn0] at h0 ⊢;rw [hn1] at h1 ⊢;rw [hn2] at h2 ⊢;have HN0:=ZZ hn0;have HN1:=ZZ hn1;have HN2:=ZZ hn2;have HS0:=ZZ h0;have HS1:=ZZ h1;have HS2:=ZZ h2;have HT:=ZZ ht;have EA:=ZZ (ab w (.cells #[.slice Q0 n0 c0,.slice Q1 n1 c1,.slice Q2 n2 c2] 54))
 have GL:=ZZ (show Gl (w.alloc (.cells #[.slice Q0 n0 c0,.slice Q1 n1 c1,.slice Q2 n2 c2] 54)) (.slice (some ⟨w.heap.size,0,none⟩) 3 3) [(.slice Q0 n0 c0,l0),(.slice Q1 n1 c1,l1),(.slice Q2 n2 c2,l2)] from by
  obtain⟨x0,x1,x2,-⟩:=aj (heap_alloc_new w (.cells #[.slice Q0 n0 c0,.slice Q1 n1 c1,.slice Q2 n2 c2] 54));refine⟨w.heap.size,3,rfl,fun i y hy=>?_⟩
  match i,hy with
  | 0,hy=>obtain rfl:=Option.some.inj hy;exact⟨x0,HS0.out.mono EA.out⟩
  | 1,hy=>obtain rfl:=Option.some.inj hy;exact⟨x1,HS1.out.mono EA.out⟩
  | 2,hy=>obtain rfl:=Option.some.inj hy;exact⟨x2,HS2.out.mono EA.out⟩)
 clear h0 h1 h2 ht m0 m1 m2 hn0 hn1 hn2
 go_enter Tryz.func5,Tryz.ntmps5
 go_wp2_with fail;refine(great_p _ [(.slice Q0 n0 c0,l0),(.slice Q1 n1 c1,l1),(.slice Q2 n2 c2,l2)] (by simp) _ GL.out).mono ?_
 rintro e w1 ⟨rfl,kk1⟩;have K1:=ZZ (al EA.out kk1);obtain⟨d,hd⟩:∃d,greatF [(.slice Q0 n0 c0,l0),(.slice Q1 n1 c1,l1),(.slice Q2 n2 c2,l2)]=d:=⟨_,rfl⟩;rw [hd];have HD:=ZZ hd;clear hd kk1
 cases d with
 | true=>
  go_wp2_with fail;refine(awake_p _ (HT.out.mono K1.out)).mono ?_
  rintro e w2 ⟨rfl,kk2⟩;have K2:=ZZ (al K1.out kk2);clear kk2;go_wp2_with fail;go_ret;exact⟨rfl,K2.out⟩
 | false=>
  have HM0:=ZZ (show l0.length≤60 from great_len HD.out (.slice Q0 n0 c0,l0) (by simp));have HM1:=ZZ (show l1.length≤60 from great_len HD.out (.slice Q1 n1 c1,l1) (by simp));have HM2:=ZZ (show l2.length≤60 from great_len HD.out (.slice Q2 n2 c2,l2) (by simp));obtain⟨a,ha⟩:∃a,listF l0=a:=⟨_,rfl⟩;obtain⟨b,hb⟩:∃a,listF l1=a:=⟨_,rfl⟩;obtain⟨c,hc⟩:∃a,listF l2=a:=⟨_,rfl⟩;have HLA:=ZZ ha;have HLB:=ZZ hb;have HLC:=ZZ hc;clear ha hb hc;go_wp2_with fail;refine(list_x _ l0 _ (HS0.out.mono K1.out) HM0.out).mono ?_;rintro e w2 ⟨va,xa,rfl,ha,kk2⟩;rw [HLA.out] at ha;have PA0:=ZZ ha;have K2:=ZZ (al K1.out kk2);clear ha kk2;go_wp2_with fail;refine(list_x _ l1 _ (HS1.out.mono K2.out) HM1.out).mono ?_;rintro e w3 ⟨vb,xb,rfl,hb,kk3⟩;rw [HLB.out] at hb;have PB0:=ZZ hb;have PA1:=ZZ (PA0.out.mono kk3);have K3:=ZZ (al K2.out kk3);clear hb kk3;go_wp2_with fail;refine(list_x _ l2 _ (HS2.out.mono K3.out) HM2.out).mono ?_;rintro e w4 ⟨vc,xc,rfl,hc,kk4⟩;rw [HLC.out] at hc;have PC0:=ZZ hc;have PA2:=ZZ (PA1.out.mono kk4);have PB2:=ZZ (PB0.out.mono kk4);have K4:=ZZ (al K3.out kk4);clear hc kk4 PA0 PA1 PB0;go_wp2_with fail;refine(mul_x (N1:=60) (N2:=60) (M:=4001) (N:=120) (K:=480181) (by decide) (by decide) (by decide) (by decide) (by decide) (by decide) _ _ _ _ _ PA2.out PB2.out).mono ?_;rintro e WB ⟨vab,rfl,hab,kk5⟩;have PAB:=ZZ hab;have PA:=ZZ (PA2.out.mono kk5);have PB:=ZZ (PB2.out.mono kk5);have PC:=ZZ (PC0.out.mono kk5);have KB:=ZZ (al K4.out kk5);have EB0:=ZZ (ae WB)
  clear hab kk5 PA2 PB2 PC0 K1 K2 K3 K4 EA GL;go_wp2_with fail;refine(mul_x (N1:=60) (N2:=60) (M:=4001) (N:=120) (K:=480181) (by decide) (by decide) (by decide) (by decide) (by decide) (by decide) _ _ _ _ _ (PB.out.mono EB0.out) (PA.out.mono EB0.out)).mono ?_;rintro e w1 ⟨vx1,rfl,hq1,kq1⟩;have EB1:=ZZ (al EB0.out kq1);have Hx1:=ZZ hq1;clear hq1;clear kq1;go_wp2_with fail;refine(equal_x (N:=120) (M:=480181) (by decide) (by decide) _ _ _ _ (ring_comm b a) _ (PAB.out.mono EB1.out) Hx1.out.1).mono ?_;rintro e w2 ⟨rfl,kq2⟩;have EB2:=ZZ (al EB1.out kq2);have Hx1:=ZZ (Hx1.out.mono kq2);clear kq2;go_wp2_with fail;refine(mul_x (N1:=120) (N2:=60) (M:=480181) (N:=180) (K:=115243561) (by decide) (by decide) (by decide) (by decide) (by decide) (by decide) _ _ _ _ _ (PAB.out.mono EB2.out) ((PC.out.mono EB2.out).up (Nat.le_refl _) (by decide):Px _ _ _ 60 480181)).mono ?_;rintro e w3 ⟨vx2,rfl,hq3,kq3⟩;have EB3:=ZZ (al EB2.out kq3);have Hx2:=ZZ hq3;clear hq3;clear kq3;go_wp2_with fail;refine(mul_x (N1:=60) (N2:=60) (M:=4001) (N:=120) (K:=480181) (by decide) (by decide) (by decide) (by decide) (by decide) (by decide) _ _ _ _ _ (PB.out.mono EB3.out) (PC.out.mono EB3.out)).mono ?_;rintro e w4 ⟨vx3,rfl,hq4,kq4⟩;have EB4:=ZZ (al EB3.out kq4);have Hx2:=ZZ (Hx2.out.mono kq4);have Hx3:=ZZ hq4;clear hq4;clear kq4;go_wp2_with fail
  refine(mul_x (N1:=60) (N2:=120) (M:=480181) (N:=180) (K:=115243561) (by decide) (by decide) (by decide) (by decide) (by decide) (by decide) _ _ _ _ _ ((PA.out.mono EB4.out).up (Nat.le_refl _) (by decide):Px _ _ _ 60 480181) Hx3.out).mono ?_;rintro e w5 ⟨vx4,rfl,hq5,kq5⟩;have EB5:=ZZ (al EB4.out kq5);have Hx2:=ZZ (Hx2.out.mono kq5);have Hx3:=ZZ (Hx3.out.mono kq5);have Hx4:=ZZ hq5;clear hq5;clear kq5;go_wp2_with fail;refine(equal_x (N:=180) (M:=115243561) (by decide) (by decide) _ _ _ _ (ring_assoc a b c).symm _ Hx2.out Hx4.out.1).mono ?_;rintro e w6 ⟨rfl,kq6⟩;have EB6:=ZZ (al EB5.out kq6);have Hx2:=ZZ (Hx2.out.mono kq6);have Hx3:=ZZ (Hx3.out.mono kq6);have Hx4:=ZZ (Hx4.out.mono kq6);clear kq6;go_wp2_with fail;refine(add_x (N1:=60) (N2:=60) (M:=4001) (N:=60) (K:=8003) (by decide) (by decide) (by decide) (by decide) (by decide) (by decide) _ _ _ _ _ (PA.out.mono EB6.out) (PB.out.mono EB6.out)).mono ?_;rintro e w7 ⟨vx5,rfl,hq7,kq7⟩;have EB7:=ZZ (al EB6.out kq7);have Hx5:=ZZ hq7;clear hq7;clear kq7;go_wp2_with fail;refine(mul_x (N1:=60) (N2:=60) (M:=8003) (N:=120) (K:=960421) (by decide) (by decide) (by decide) (by decide) (by decide) (by decide) _ _ _ _ _ Hx5.out ((PC.out.mono EB7.out).up (Nat.le_refl _) (by decide):Px _ _ _ 60 8003)).mono ?_;rintro e w8 ⟨vx6,rfl,hq8,kq8⟩;have EB8:=ZZ (al EB7.out kq8);have Hx5:=ZZ (Hx5.out.mono kq8);have Hx6:=ZZ hq8;clear hq8;clear kq8;go_wp2_with fail
  refine(mul_x (N1:=60) (N2:=60) (M:=4001) (N:=120) (K:=480181) (by decide) (by decide) (by decide) (by decide) (by decide) (by decide) _ _ _ _ _ (PA.out.mono EB8.out) (PC.out.mono EB8.out)).mono ?_;rintro e w9 ⟨vx7,rfl,hq9,kq9⟩;have EB9:=ZZ (al EB8.out kq9);have Hx5:=ZZ (Hx5.out.mono kq9);have Hx6:=ZZ (Hx6.out.mono kq9);have Hx7:=ZZ hq9;clear hq9;clear kq9;go_wp2_with fail;refine(mul_x (N1:=60) (N2:=60) (M:=4001) (N:=120) (K:=480181) (by decide) (by decide) (by decide) (by decide) (by decide) (by decide) _ _ _ _ _ (PB.out.mono EB9.out) (PC.out.mono EB9.out)).mono ?_;rintro e w10 ⟨vx8,rfl,hq10,kq10⟩;have EB10:=ZZ (al EB9.out kq10);have Hx5:=ZZ (Hx5.out.mono kq10);have Hx6:=ZZ (Hx6.out.mono kq10);have Hx7:=ZZ (Hx7.out.mono kq10);have Hx8:=ZZ hq10;clear hq10;clear kq10;go_wp2_with fail;refine(add_x (N1:=120) (N2:=120) (M:=480181) (N:=120) (K:=960421) (by decide) (by decide) (by decide) (by decide) (by decide) (by decide) _ _ _ _ _ Hx7.out Hx8.out).mono ?_;rintro e w11 ⟨vx9,rfl,hq11,kq11⟩;have EB11:=ZZ (al EB10.out kq11);have Hx5:=ZZ (Hx5.out.mono kq11);have Hx6:=ZZ (Hx6.out.mono kq11);have Hx7:=ZZ (Hx7.out.mono kq11);have Hx8:=ZZ (Hx8.out.mono kq11);have Hx9:=ZZ hq11;clear hq11;clear kq11;go_wp2_with fail;refine(equal_x (N:=120) (M:=960421) (by decide) (by decide) _ _ _ _ (ring_dist a b c).symm _ Hx6.out Hx9.out.1).mono ?_;rintro e w12 ⟨rfl,kq12⟩;have EB12:=ZZ (al EB11.out kq12);have Hx5:=ZZ (Hx5.out.mono kq12);have Hx6:=ZZ (Hx6.out.mono kq12);have Hx7:=ZZ (Hx7.out.mono kq12)
  have Hx8:=ZZ (Hx8.out.mono kq12);have Hx9:=ZZ (Hx9.out.mono kq12);clear kq12;go_wp2_with fail;refine(add_x (N1:=60) (N2:=60) (M:=4001) (N:=60) (K:=8003) (by decide) (by decide) (by decide) (by decide) (by decide) (by decide) _ _ _ _ _ (PA.out.mono EB12.out) (PB.out.mono EB12.out)).mono ?_;rintro e w13 ⟨vy1,rfl,hq13,kq13⟩;have EB13:=ZZ (al EB12.out kq13);have Hy1:=ZZ hq13;clear hq13;clear kq13;go_wp2_with fail;refine(sub_x (N:=60) (M:=8003) (by decide) (by decide) _ _ _ _ _ Hy1.out ((PB.out.mono EB13.out).up (Nat.le_refl _) (by decide):Px _ _ _ 60 8003)).mono ?_;rintro e w14 ⟨vy2,rfl,hq14,kq14⟩;have EB14:=ZZ (al EB13.out kq14);have Hy1:=ZZ (Hy1.out.mono kq14);have Hy2:=ZZ hq14;clear hq14;clear kq14;go_wp2_with fail;refine(trim_x (N:=60) (M:=4001) (by decide) _ _ _ (PA.out.mono EB14.out)).mono ?_;rintro e w15 ⟨vy3,rfl,hq15,kq15⟩;have EB15:=ZZ (al EB14.out kq15);have Hy1:=ZZ (Hy1.out.mono kq15);have Hy2:=ZZ (Hy2.out.mono kq15);have Hy3:=ZZ hq15;clear hq15;clear kq15;go_wp2_with fail;refine(equal_y (N:=60) (M:=4001) (by decide) (by decide) _ _ _ _ (sub_back a b) _ Hy2.out Hy3.out).mono ?_;rintro e w16 ⟨rfl,kq16⟩;have EB16:=ZZ (al EB15.out kq16);have Hy1:=ZZ (Hy1.out.mono kq16);have Hy2:=ZZ (Hy2.out.mono kq16);have Hy3:=ZZ (Hy3.out.mono kq16);clear kq16
  go_upto_region 9 with (fail)
  go_cut [120] (fun r wx=>r=.bool false∧Hid (Ext WB wx))
  case first=>
   obtain⟨na,hna⟩:∃n,(trimF a).length=n:=⟨_,rfl⟩;obtain⟨nb,hnb⟩:∃n,(trimF b).length=n:=⟨_,rfl⟩;obtain⟨da,hda⟩:∃d,(na:Int) - 1=d:=⟨_,rfl⟩;obtain⟨db,hdb⟩:∃d,(nb:Int) - 1=d:=⟨_,rfl⟩;have HDA:=ZZ (show ((trimF a).length:Int) - 1=da from by rw [hna];exact hda);have HDB:=ZZ (show ((trimF b).length:Int) - 1=db from by rw [hnb];exact hdb)
   rcases Nat.eq_zero_or_pos na with p1|p1
   ·have r1:decide ((0:Int)≤da)=false:=decide_eq_false (by omega)
    clear hna hnb hda hdb p1;go_wp2_with fail;refine(deg_x (N:=60) (M:=4001) (by decide) _ _ _ (PA.out.mono EB16.out) da HDA.out).mono ?_;rintro e w17 ⟨rfl,kq17⟩;have EB17:=ZZ (al EB16.out kq17);clear kq17;go_wp2_with fail;refine(deriv_x (N:=120) (M:=480181) (K:=480245) (by decide) (by decide) (by decide) (by decide) _ _ _ (PAB.out.mono EB17.out)).mono ?_;rintro e w18 ⟨vz1,rfl,hq18,kq18⟩;have EB18:=ZZ (al EB17.out kq18);have Hz1:=ZZ hq18;clear hq18;clear kq18;go_wp2_with fail;refine(deriv_x (N:=60) (M:=4001) (K:=4065) (by decide) (by decide) (by decide) (by decide) _ _ _ (PA.out.mono EB18.out)).mono ?_;rintro e w19 ⟨vz2,rfl,hq19,kq19⟩;have EB19:=ZZ (al EB18.out kq19);have Hz1:=ZZ (Hz1.out.mono kq19);have Hz2:=ZZ hq19;clear hq19;clear kq19;go_wp2_with fail;refine(mul_x (N1:=60) (N2:=60) (M:=4065) (N:=120) (K:=487861) (by decide) (by decide) (by decide) (by decide) (by decide) (by decide) _ _ _ _ _ Hz2.out ((PB.out.mono EB19.out).up (Nat.le_refl _) (by decide):Px _ _ _ 60 4065)).mono ?_;rintro e w20 ⟨vz3,rfl,hq20,kq20⟩;have EB20:=ZZ (al EB19.out kq20);have Hz1:=ZZ (Hz1.out.mono kq20);have Hz2:=ZZ (Hz2.out.mono kq20);have Hz3:=ZZ hq20;clear hq20;clear kq20;go_wp2_with fail;refine(deriv_x (N:=60) (M:=4001) (K:=4065) (by decide) (by decide) (by decide) (by decide) _ _ _ (PB.out.mono EB20.out)).mono ?_;rintro e w21 ⟨vz4,rfl,hq21,kq21⟩;have EB21:=ZZ (al EB20.out kq21);have Hz1:=ZZ (Hz1.out.mono kq21);have Hz2:=ZZ (Hz2.out.mono kq21);have Hz3:=ZZ (Hz3.out.mono kq21);have Hz4:=ZZ hq21
    clear hq21;clear kq21;go_wp2_with fail;refine(mul_x (N1:=60) (N2:=60) (M:=4065) (N:=120) (K:=487861) (by decide) (by decide) (by decide) (by decide) (by decide) (by decide) _ _ _ _ _ ((PA.out.mono EB21.out).up (Nat.le_refl _) (by decide):Px _ _ _ 60 4065) Hz4.out).mono ?_;rintro e w22 ⟨vz5,rfl,hq22,kq22⟩;have EB22:=ZZ (al EB21.out kq22);have Hz1:=ZZ (Hz1.out.mono kq22);have Hz2:=ZZ (Hz2.out.mono kq22);have Hz3:=ZZ (Hz3.out.mono kq22);have Hz4:=ZZ (Hz4.out.mono kq22);have Hz5:=ZZ hq22;clear hq22;clear kq22;go_wp2_with fail;refine(add_x (N1:=120) (N2:=120) (M:=487861) (N:=120) (K:=975723) (by decide) (by decide) (by decide) (by decide) (by decide) (by decide) _ _ _ _ _ Hz3.out Hz5.out).mono ?_;rintro e w23 ⟨vz6,rfl,hq23,kq23⟩;have EB23:=ZZ (al EB22.out kq23);have Hz1:=ZZ (Hz1.out.mono kq23);have Hz2:=ZZ (Hz2.out.mono kq23);have Hz3:=ZZ (Hz3.out.mono kq23);have Hz4:=ZZ (Hz4.out.mono kq23);have Hz5:=ZZ (Hz5.out.mono kq23);have Hz6:=ZZ hq23;clear hq23;clear kq23;go_wp2_with fail;refine(equal_x (N:=120) (M:=480245) (by decide) (by decide) _ _ _ _ (deriv_mul a b).symm _ Hz1.out Hz6.out.1).mono ?_;rintro e w24 ⟨rfl,kq24⟩;have EB24:=ZZ (al EB23.out kq24);have Hz1:=ZZ (Hz1.out.mono kq24);have Hz2:=ZZ (Hz2.out.mono kq24);have Hz3:=ZZ (Hz3.out.mono kq24);have Hz4:=ZZ (Hz4.out.mono kq24);have Hz5:=ZZ (Hz5.out.mono kq24);have Hz6:=ZZ (Hz6.out.mono kq24);clear kq24;go_wp2_with fail;go_meet;exact⟨rfl,EB24⟩
   ·have r1:decide ((0:Int)≤da)=true:=decide_eq_true (by omega)
    rcases Nat.eq_zero_or_pos nb with p2|p2
    ·have r2:decide ((0:Int)≤db)=false:=decide_eq_false (by omega)
     clear hna hnb hda hdb p1 p2;go_wp2_with fail;refine(deg_x (N:=60) (M:=4001) (by decide) _ _ _ (PA.out.mono EB16.out) da HDA.out).mono ?_;rintro e w17 ⟨rfl,kq17⟩;have EB17:=ZZ (al EB16.out kq17);clear kq17;go_wp2_with fail;refine(deg_x (N:=60) (M:=4001) (by decide) _ _ _ (PB.out.mono EB17.out) db HDB.out).mono ?_;rintro e w18 ⟨rfl,kq18⟩;have EB18:=ZZ (al EB17.out kq18);clear kq18;go_wp2_with fail;refine(deriv_x (N:=120) (M:=480181) (K:=480245) (by decide) (by decide) (by decide) (by decide) _ _ _ (PAB.out.mono EB18.out)).mono ?_;rintro e w19 ⟨vz1,rfl,hq19,kq19⟩;have EB19:=ZZ (al EB18.out kq19);have Hz1:=ZZ hq19;clear hq19;clear kq19;go_wp2_with fail;refine(deriv_x (N:=60) (M:=4001) (K:=4065) (by decide) (by decide) (by decide) (by decide) _ _ _ (PA.out.mono EB19.out)).mono ?_;rintro e w20 ⟨vz2,rfl,hq20,kq20⟩;have EB20:=ZZ (al EB19.out kq20);have Hz1:=ZZ (Hz1.out.mono kq20);have Hz2:=ZZ hq20;clear hq20;clear kq20;go_wp2_with fail;refine(mul_x (N1:=60) (N2:=60) (M:=4065) (N:=120) (K:=487861) (by decide) (by decide) (by decide) (by decide) (by decide) (by decide) _ _ _ _ _ Hz2.out ((PB.out.mono EB20.out).up (Nat.le_refl _) (by decide):Px _ _ _ 60 4065)).mono ?_;rintro e w21 ⟨vz3,rfl,hq21,kq21⟩;have EB21:=ZZ (al EB20.out kq21);have Hz1:=ZZ (Hz1.out.mono kq21);have Hz2:=ZZ (Hz2.out.mono kq21);have Hz3:=ZZ hq21;clear hq21;clear kq21;go_wp2_with fail;refine(deriv_x (N:=60) (M:=4001) (K:=4065) (by decide) (by decide) (by decide) (by decide) _ _ _ (PB.out.mono EB21.out)).mono ?_
     rintro e w22 ⟨vz4,rfl,hq22,kq22⟩;have EB22:=ZZ (al EB21.out kq22);have Hz1:=ZZ (Hz1.out.mono kq22);have Hz2:=ZZ (Hz2.out.mono kq22);have Hz3:=ZZ (Hz3.out.mono kq22);have Hz4:=ZZ hq22;clear hq22;clear kq22;go_wp2_with fail;refine(mul_x (N1:=60) (N2:=60) (M:=4065) (N:=120) (K:=487861) (by decide) (by decide) (by decide) (by decide) (by decide) (by decide) _ _ _ _ _ ((PA.out.mono EB22.out).up (Nat.le_refl _) (by decide):Px _ _ _ 60 4065) Hz4.out).mono ?_;rintro e w23 ⟨vz5,rfl,hq23,kq23⟩;have EB23:=ZZ (al EB22.out kq23);have Hz1:=ZZ (Hz1.out.mono kq23);have Hz2:=ZZ (Hz2.out.mono kq23);have Hz3:=ZZ (Hz3.out.mono kq23);have Hz4:=ZZ (Hz4.out.mono kq23);have Hz5:=ZZ hq23;clear hq23;clear kq23;go_wp2_with fail;refine(add_x (N1:=120) (N2:=120) (M:=487861) (N:=120) (K:=975723) (by decide) (by decide) (by decide) (by decide) (by decide) (by decide) _ _ _ _ _ Hz3.out Hz5.out).mono ?_;rintro e w24 ⟨vz6,rfl,hq24,kq24⟩;have EB24:=ZZ (al EB23.out kq24);have Hz1:=ZZ (Hz1.out.mono kq24);have Hz2:=ZZ (Hz2.out.mono kq24);have Hz3:=ZZ (Hz3.out.mono kq24);have Hz4:=ZZ (Hz4.out.mono kq24);have Hz5:=ZZ (Hz5.out.mono kq24);have Hz6:=ZZ hq24;clear hq24;clear kq24;go_wp2_with fail;refine(equal_x (N:=120) (M:=480245) (by decide) (by decide) _ _ _ _ (deriv_mul a b).symm _ Hz1.out Hz6.out.1).mono ?_;rintro e w25 ⟨rfl,kq25⟩;have EB25:=ZZ (al EB24.out kq25);have Hz1:=ZZ (Hz1.out.mono kq25);have Hz2:=ZZ (Hz2.out.mono kq25);have Hz3:=ZZ (Hz3.out.mono kq25);have Hz4:=ZZ (Hz4.out.mono kq25)
     have Hz5:=ZZ (Hz5.out.mono kq25);have Hz6:=ZZ (Hz6.out.mono kq25);clear kq25;go_wp2_with fail;go_meet;exact⟨rfl,EB25⟩
    ·have r2:decide ((0:Int)≤db)=true:=decide_eq_true (by omega)
     obtain⟨dc,hdc⟩:∃d,da+db=d:=⟨_,rfl⟩
     have r3:IntKind.i64.wrap (da+db)=dc:=by
      have h1:=PA.out.2.1;have h2:=PB.out.2.1;have h3:=trim_le a;have h4:=trim_le b;rw [←hdc];exact IntWalk.i64_in _ (by omega)
     have HDC:=ZZ (show ((trimF (mulF a b)).length:Int) - 1=dc from by
      rw [deg_mul (p:=a) (q:=b) (i:=na - 1) (j:=nb - 1) (by omega) (by omega)]
      omega)
     clear hna hnb hda hdb hdc p1 p2;go_wp2_with fail;refine(deg_x (N:=60) (M:=4001) (by decide) _ _ _ (PA.out.mono EB16.out) da HDA.out).mono ?_;rintro e w17 ⟨rfl,kq17⟩;have EB17:=ZZ (al EB16.out kq17);clear kq17;go_wp2_with fail;refine(deg_x (N:=60) (M:=4001) (by decide) _ _ _ (PB.out.mono EB17.out) db HDB.out).mono ?_;rintro e w18 ⟨rfl,kq18⟩;have EB18:=ZZ (al EB17.out kq18);clear kq18;go_wp2_with fail;refine(deg_x (N:=120) (M:=480181) (by decide) _ _ _ (PAB.out.mono EB18.out) dc HDC.out).mono ?_;rintro e w19 ⟨rfl,kq19⟩;have EB19:=ZZ (al EB18.out kq19);clear kq19;go_wp2_with fail;refine(deg_x (N:=60) (M:=4001) (by decide) _ _ _ (PA.out.mono EB19.out) da HDA.out).mono ?_;rintro e w20 ⟨rfl,kq20⟩;have EB20:=ZZ (al EB19.out kq20);clear kq20;go_wp2_with fail;refine(deg_x (N:=60) (M:=4001) (by decide) _ _ _ (PB.out.mono EB20.out) db HDB.out).mono ?_;rintro e w21 ⟨rfl,kq21⟩;have EB21:=ZZ (al EB20.out kq21);clear kq21;go_wp2_with fail;refine(deriv_x (N:=120) (M:=480181) (K:=480245) (by decide) (by decide) (by decide) (by decide) _ _ _ (PAB.out.mono EB21.out)).mono ?_;rintro e w22 ⟨vz1,rfl,hq22,kq22⟩;have EB22:=ZZ (al EB21.out kq22);have Hz1:=ZZ hq22;clear hq22;clear kq22;go_wp2_with fail;refine(deriv_x (N:=60) (M:=4001) (K:=4065) (by decide) (by decide) (by decide) (by decide) _ _ _ (PA.out.mono EB22.out)).mono ?_;rintro e w23 ⟨vz2,rfl,hq23,kq23⟩;have EB23:=ZZ (al EB22.out kq23);have Hz1:=ZZ (Hz1.out.mono kq23);have Hz2:=ZZ hq23;clear hq23;clear kq23;go_wp2_with fail
     refine(mul_x (N1:=60) (N2:=60) (M:=4065) (N:=120) (K:=487861) (by decide) (by decide) (by decide) (by decide) (by decide) (by decide) _ _ _ _ _ Hz2.out ((PB.out.mono EB23.out).up (Nat.le_refl _) (by decide):Px _ _ _ 60 4065)).mono ?_;rintro e w24 ⟨vz3,rfl,hq24,kq24⟩;have EB24:=ZZ (al EB23.out kq24);have Hz1:=ZZ (Hz1.out.mono kq24);have Hz2:=ZZ (Hz2.out.mono kq24);have Hz3:=ZZ hq24;clear hq24;clear kq24;go_wp2_with fail;refine(deriv_x (N:=60) (M:=4001) (K:=4065) (by decide) (by decide) (by decide) (by decide) _ _ _ (PB.out.mono EB24.out)).mono ?_;rintro e w25 ⟨vz4,rfl,hq25,kq25⟩;have EB25:=ZZ (al EB24.out kq25);have Hz1:=ZZ (Hz1.out.mono kq25);have Hz2:=ZZ (Hz2.out.mono kq25);have Hz3:=ZZ (Hz3.out.mono kq25);have Hz4:=ZZ hq25;clear hq25;clear kq25;go_wp2_with fail;refine(mul_x (N1:=60) (N2:=60) (M:=4065) (N:=120) (K:=487861) (by decide) (by decide) (by decide) (by decide) (by decide) (by decide) _ _ _ _ _ ((PA.out.mono EB25.out).up (Nat.le_refl _) (by decide):Px _ _ _ 60 4065) Hz4.out).mono ?_;rintro e w26 ⟨vz5,rfl,hq26,kq26⟩;have EB26:=ZZ (al EB25.out kq26);have Hz1:=ZZ (Hz1.out.mono kq26);have Hz2:=ZZ (Hz2.out.mono kq26);have Hz3:=ZZ (Hz3.out.mono kq26);have Hz4:=ZZ (Hz4.out.mono kq26);have Hz5:=ZZ hq26;clear hq26;clear kq26;go_wp2_with fail;refine(add_x (N1:=120) (N2:=120) (M:=487861) (N:=120) (K:=975723) (by decide) (by decide) (by decide) (by decide) (by decide) (by decide) _ _ _ _ _ Hz3.out Hz5.out).mono ?_;rintro e w27 ⟨vz6,rfl,hq27,kq27⟩
     have EB27:=ZZ (al EB26.out kq27);have Hz1:=ZZ (Hz1.out.mono kq27);have Hz2:=ZZ (Hz2.out.mono kq27);have Hz3:=ZZ (Hz3.out.mono kq27);have Hz4:=ZZ (Hz4.out.mono kq27);have Hz5:=ZZ (Hz5.out.mono kq27);have Hz6:=ZZ hq27;clear hq27;clear kq27;go_wp2_with fail;refine(equal_x (N:=120) (M:=480245) (by decide) (by decide) _ _ _ _ (deriv_mul a b).symm _ Hz1.out Hz6.out.1).mono ?_;rintro e w28 ⟨rfl,kq28⟩;have EB28:=ZZ (al EB27.out kq28);have Hz1:=ZZ (Hz1.out.mono kq28);have Hz2:=ZZ (Hz2.out.mono kq28);have Hz3:=ZZ (Hz3.out.mono kq28);have Hz4:=ZZ (Hz4.out.mono kq28);have Hz5:=ZZ (Hz5.out.mono kq28);have Hz6:=ZZ (Hz6.out.mono kq28);clear kq28;go_wp2_with fail;go_meet;exact⟨rfl,EB28⟩
  case rest=>
   obtain⟨rfl,HXC⟩:=hcut;have KC:=ZZ (al KB.out HXC.out);have q1:IntKind.i64.wrap ((n0:Int) - 2)=(n0:Int) - 2:=by have h1:=HN0.out;have h2:=HM0.out;exact IntWalk.i64_in _ (by omega)
   have q2:IntKind.i64.wrap ((n2:Int)+1)=(n2:Int)+1:=by have h1:=HN2.out;have h2:=HM2.out;exact IntWalk.i64_in _ (by omega)
   go_wp2_with fail;refine(ratio_q ((n0:Int) - 2) ((n2:Int)+1) (by omega) (by have h1:=HN0.out;have h2:=HM0.out;omega) (by omega) (by have h1:=HN2.out;have h2:=HM2.out;omega) (by omega) _).mono ?_
   rintro e wq ⟨v4,rfl,hx4,kk4⟩;obtain⟨x,hx⟩:∃x,(((n0:Int) - 2:Int):Rat) / (((n2:Int)+1:Int):Rat)=x:=⟨_,rfl⟩
   have BX0:=ZZ (show Bq 128 x from by
    rw [←hx];exact((bq_int _ (by omega) (by have h1:=HN0.out;have h2:=HM0.out;omega)).div (bq_int _ (by omega) (by have h1:=HN2.out;have h2:=HM2.out;omega)) (fun e=>by have:=Rat.intCast_inj.1 (e.trans Rat.intCast_zero.symm);omega)).mono (by decide))
   have BX:=ZZ (show Bq 4001 x from BX0.out.mono (by decide));rw [hx] at hx4;obtain⟨s4,A4,k4,ca4,B4,l4,cb4,rfl⟩:=hx4.form2;have NX:=ZZ (hx4.mono (ab wq (.cells #[.bool s4,.slice A4 k4 ca4,.slice B4 l4 cb4] 35)));have RX:=ZZ (heap_alloc_new wq (.cells #[.bool s4,.slice A4 k4 ca4,.slice B4 l4 cb4] 35));have EW12:=ZZ (al HXC.out (al kk4 (ab wq (.cells #[.bool s4,.slice A4 k4 ca4,.slice B4 l4 cb4] 35))));clear hx hx4 kk4 q1 q2 HXC KC
   go_upto_region 12 with (fail)
   generalize wq.alloc (.cells #[.bool s4,.slice A4 k4 ca4,.slice B4 l4 cb4] _)=W12 at *;generalize wq.heap.size=gx at *
   have HCa:=ZZ (show ∀W,Ext W12 W→W.cell? ⟨gx,0,none⟩=some (.bool s4)∧W.cell? ⟨gx,1,none⟩=some (.slice A4 k4 ca4)∧W.cell? ⟨gx,2,none⟩=some (.slice B4 l4 cb4) from fun W k=>by
    obtain⟨y0,y1,y2,-⟩:=aj ((k.block _ (lt_of_block RX.out)).trans RX.out);exact⟨y0,y1,y2⟩)
   go_cut [16,17] (fun p1 p2 wx=>BoxN wx p1 (evR a x)∧BoxN wx p2 (evR b x)∧Hid (Ext W12 wx))
   case first=>
    refine wp_region_noPanic ?_;refine wp_region_held_drew (S:=fun W=>W.cell? ⟨gx,0,none⟩=some (.bool s4)∧W.cell? ⟨gx,1,none⟩=some (.slice A4 k4 ca4)∧W.cell? ⟨gx,2,none⟩=some (.slice B4 l4 cb4)) (by kernel_rfl) (HCa.out _ (ac _)) (fun hHeld=>?_);refine take_p (i:=0) 131 (v:=?vva0) rfl rfl (by kernel_rfl) (by kernel_rfl) (by kernel_rfl) (fun _ _ _ h=>h) (Or.inl ⟨rfl,?hya0⟩) (by assumption) ?rra0
    case hya0=>(intro w hSw;(try dsimp only at hSw);go_simp;try with_reducible rfl)
    try simp only [Act.put,lyA,lyB,lyC]
    refine take_p (i:=1) 132 (v:=?vva1) rfl rfl (by kernel_rfl) (by kernel_rfl) (by kernel_rfl) (fun _ _ _ h=>h) (Or.inl ⟨rfl,?hya1⟩) (by assumption) ?rra1
    case hya1=>(intro w hSw;(try dsimp only at hSw);go_simp;try with_reducible rfl)
    try simp only [Act.put,lyA,lyB,lyC]
    refine take_p (i:=3) 134 (v:=?vva3) rfl rfl (by kernel_rfl) (by kernel_rfl) (by kernel_rfl) (fun _ _ _ h=>h) (Or.inl ⟨rfl,?hya3⟩) (by assumption) ?rra3
    case hya3=>(intro w hSw;(try dsimp only at hSw);go_simp;try with_reducible rfl)
    try simp only [Act.put,lyA,lyB,lyC]
    refine take_p (i:=4) 135 (v:=?vva4) rfl rfl (by kernel_rfl) (by kernel_rfl) (by kernel_rfl) (fun _ _ _ h=>h) (Or.inl ⟨rfl,?hya4⟩) (by assumption) ?rra4
    case hya4=>(intro w hSw;(try dsimp only at hSw);go_simp;try with_reducible rfl)
    try simp only [Act.put,lyA,lyB,lyC]
    refine free_q (J:=fun D y W=>Hid (Ext W12 W)∧Fc (D 2) (Nm W (y 2) (evR a x))∧Fc (D 5) (Nm W (y 5) (evR b x))∧Fc (D 6) (Nw W12 W (y 6) (.cells #[.bool false,.slice none 0 0,.slice none 0 0] 35))∧Fc (D 7) (Nw W12 W (y 7) (.cells #[.bool false,.slice none 0 0,.slice none 0 0] 35))∧Fc (D 6 && D 7) (y 6≠y 7)) [(2,133),(5,136),(6,16),(7,17)] 2 rfl (by kernel_rfl) (by kernel_rfl) (by assumption) (fun D y hD=>⟨ZZ (ac _),Fc.off (hD 2 (by simp)),Fc.off (hD 5 (by simp)),Fc.off (hD 6 (by simp)),Fc.off (hD 7 (by simp)),Fc.off (by rw [hD 6 (by simp)];rfl)⟩) (met_cons ?mta2 (met_cons ?mta5 (met_cons ?mta6 (met_cons ?mta7 met_nil)))) (fun D y w hD hHeld hJ=>?fina)
    case mta2=>
     refine Met.mq [] 133 rfl rfl (by kernel_rfl) (by kernel_rfl) (fun D y w hS hJ hD hd K hK=>?_);obtain⟨he,f2,f5,f6,f7,f67⟩:=hJ
     simp only [putsL,allOf,List.map_cons,List.map_nil,List.foldl_cons,List.foldl_nil,Act.put,List.setIfInBounds_toArray,List.set_cons_zero,List.set_cons_succ]
     go_simp
     go_at_call 39
     refine(eval_x (N:=60) (M:=4001) (K:=500000) (by decide) (by decide) (by decide) (by decide) _ _ _ x _ (PA.out.mono (al EW12.out he.out)) (NX.out.mono he.out) BX.out).mono ?_;rintro e X ⟨vr2,rfl,hv,kv⟩
     try go_wp2_with fail
     refine hK.out vr2 _ _ (by kernel_rfl) (HCa.out _ (al he.out kv)) (fun hHeld=>?_);exact⟨ZZ (al he.out kv),Fc.on hv,f5.map (·.mono kv),f6.map (·.mono kv),f7.map (·.mono kv),f67⟩
    case mta5=>
     refine Met.mq [2] 136 rfl rfl (by kernel_rfl) (by kernel_rfl) (fun D y w hS hJ hD hd K hK=>?_);obtain⟨he,f2,f5,f6,f7,f67⟩:=hJ
     simp only [putsL,allOf,List.map_cons,List.map_nil,List.foldl_cons,List.foldl_nil,Act.put,List.setIfInBounds_toArray,List.set_cons_zero,List.set_cons_succ]
     go_simp
     go_at_call 39
     refine(eval_x (N:=60) (M:=4001) (K:=500000) (by decide) (by decide) (by decide) (by decide) _ _ _ x _ (PB.out.mono (al EW12.out he.out)) (NX.out.mono he.out) BX.out).mono ?_;rintro e X ⟨vr5,rfl,hv,kv⟩
     try go_wp2_with fail
     refine hK.out vr5 _ _ (by kernel_rfl) (HCa.out _ (al he.out kv)) (fun hHeld=>?_);exact⟨ZZ (al he.out kv),f2.map (·.mono kv),Fc.on hv,f6.map (·.mono kv),f7.map (·.mono kv),f67⟩
    case mta6=>
     refine Met.mq [] 16 rfl rfl (by kernel_rfl) (by kernel_rfl) (fun D y w hS hJ hD hd K hK=>?_);obtain⟨he,f2,f5,f6,f7,f67⟩:=hJ
     simp only [putsL,allOf,List.map_cons,List.map_nil,List.foldl_cons,List.foldl_nil,Act.put,List.setIfInBounds_toArray,List.set_cons_zero,List.set_cons_succ]
     go_simp
     refine hK.out (.pointer (some ⟨w.heap.size,0,none⟩)) _ _ (by kernel_rfl) (HCa.out _ (al he.out (ab _ _))) (fun hHeld=>?_);exact⟨ZZ (al he.out (ab _ _)),f2.map (·.mono (ab _ _)),f5.map (·.mono (ab _ _)),Fc.on (Nw.new he.out _),f7.map (·.mono (ab _ _)),fun e=>(Nw.ne (f7.get (Bool.and_eq_true_iff.1 e).2)).symm⟩
    case mta7=>
     refine Met.mq [] 17 rfl rfl (by kernel_rfl) (by kernel_rfl) (fun D y w hS hJ hD hd K hK=>?_);obtain⟨he,f2,f5,f6,f7,f67⟩:=hJ
     simp only [putsL,allOf,List.map_cons,List.map_nil,List.foldl_cons,List.foldl_nil,Act.put,List.setIfInBounds_toArray,List.set_cons_zero,List.set_cons_succ]
     go_simp
     refine hK.out (.pointer (some ⟨w.heap.size,0,none⟩)) _ _ (by kernel_rfl) (HCa.out _ (al he.out (ab _ _))) (fun hHeld=>?_);exact⟨ZZ (al he.out (ab _ _)),f2.map (·.mono (ab _ _)),f5.map (·.mono (ab _ _)),f6.map (·.mono (ab _ _)),Fc.on (Nw.new he.out _),fun e=>Nw.ne (f6.get (Bool.and_eq_true_iff.1 e).1)⟩
    case fina=>
     obtain⟨he,f2,f5,f6,f7,f67⟩:=hJ;have n2:=f2.get (hD 2 (by simp));have n5:=f5.get (hD 5 (by simp));have n6:=f6.get (hD 6 (by simp));have n7:=f7.get (hD 7 (by simp));have n67:=f67.get (by rw [hD 6 (by simp),hD 7 (by simp)];rfl)
     simp only [putsL,allOf,List.map_cons,List.map_nil,List.foldl_cons,List.foldl_nil,Act.put,List.setIfInBounds_toArray,List.set_cons_zero,List.set_cons_succ]
     clear f2 f5 f6 f7 f67 hD;generalize y 2=z2 at n2 ⊢;generalize y 5=z5 at n5 ⊢;generalize y 6=z6 at n6 n67 ⊢;generalize y 7=z7 at n7 n67 ⊢;obtain⟨s5,A5,k5,ca5,B5,l5,cb5,rfl⟩:=n2.form2;obtain⟨s6,A6,k6,ca6,B6,l6,cb6,rfl⟩:=n5.form2;obtain⟨ga,rfl,ha6,hb6⟩:=n6;obtain⟨gb,rfl,ha7,hb7⟩:=n7;have hne:=ZZ (show ga≠gb from fun e=>n67 (by rw [e]));have H0:=ZZ (show RgS W12 w [(ga,(.cells #[.bool false,.slice none 0 0,.slice none 0 0] 35)),(gb,(.cells #[.bool false,.slice none 0 0,.slice none 0 0] 35))] [(.agg #[.bool s5,.slice A5 k5 ca5,.slice B5 l5 cb5],evR a x),(.agg #[.bool s6,.slice A6 k6 ca6,.slice B6 l6 cb6],evR b x)] from ⟨he.out,(by intro p hp;simp only [List.mem_cons,List.mem_nil_iff,or_false] at hp;rcases hp with rfl|rfl;exact⟨ha6,hb6⟩;exact⟨ha7,hb7⟩),(by intro p hp;simp only [List.mem_cons,List.mem_nil_iff,or_false] at hp;rcases hp with rfl|rfl;exact n2;exact n5)⟩);clear n2 n5 n67 ha6 hb6 ha7 hb7 he y;refine call_p (i:=8) none rfl rfl (by kernel_rfl) (fun K hK=>?_);obtain⟨zz0,zz1,zz2,zf0,zf1,zf2⟩:=aj (H0.out.keep (ga,(.cells #[.bool false,.slice none 0 0,.slice none 0 0] 35)) (by simp)).2
     go_simp
     clear zz0 zz1 zz2 zf0 zf1 zf2;generalize hWP:(World.setCell (World.setCell (World.setCell w ⟨ga,0,none⟩ (.bool s5)) ⟨ga,1,none⟩ (.slice A5 k5 ca5)) ⟨ga,2,none⟩ (.slice B5 l5 cb5))=X1;have hPP:=H0.out.put (g:=ga) (s:=false) (A:=none) (k:=0) (ca:=0) (B:=none) (l:=0) (cb:=0) (T:=35) (by simp) (.bool s5) (.slice A5 k5 ca5) (.slice B5 l5 cb5);rw [show put3at w ga 0 (.bool s5) (.slice A5 k5 ca5) (.slice B5 l5 cb5)=X1 from hWP] at hPP;have H1:=ZZ (hPP.sub (ks':=[(ga,.cells #[.bool s5,.slice A5 k5 ca5,.slice B5 l5 cb5] 35),(gb,(.cells #[.bool false,.slice none 0 0,.slice none 0 0] 35))]) (by intro p hp;simp only [List.mem_cons,List.mem_nil_iff,or_false] at hp;rcases hp with rfl|rfl <;> simp [hne.out,hne.out.symm]));clear hPP hWP;refine hK.out _ _ (HCa.out _ H1.out.ext) (fun hHeld=>?_);clear hK K
     try simp only [Act.put,lyA,lyB,lyC]
     refine call_p (i:=9) none rfl rfl (by kernel_rfl) (fun K hK=>?_);obtain⟨zz0,zz1,zz2,zf0,zf1,zf2⟩:=aj (H1.out.keep (gb,(.cells #[.bool false,.slice none 0 0,.slice none 0 0] 35)) (by simp)).2
     go_simp
     clear zz0 zz1 zz2 zf0 zf1 zf2;generalize hWP:(World.setCell (World.setCell (World.setCell X1 ⟨gb,0,none⟩ (.bool s6)) ⟨gb,1,none⟩ (.slice A6 k6 ca6)) ⟨gb,2,none⟩ (.slice B6 l6 cb6))=X2;have hPP:=H1.out.put (g:=gb) (s:=false) (A:=none) (k:=0) (ca:=0) (B:=none) (l:=0) (cb:=0) (T:=35) (by simp) (.bool s6) (.slice A6 k6 ca6) (.slice B6 l6 cb6);rw [show put3at X1 gb 0 (.bool s6) (.slice A6 k6 ca6) (.slice B6 l6 cb6)=X2 from hWP] at hPP;have H2:=ZZ (hPP.sub (ks':=[(gb,.cells #[.bool s6,.slice A6 k6 ca6,.slice B6 l6 cb6] 35),(ga,(.cells #[.bool s5,.slice A5 k5 ca5,.slice B5 l5 cb5] 35))]) (by intro p hp;simp only [List.mem_cons,List.mem_nil_iff,or_false] at hp;rcases hp with rfl|rfl <;> simp [hne.out,hne.out.symm]));clear hPP hWP;refine hK.out _ _ (HCa.out _ H2.out.ext) (fun hHeld=>?_);clear hK K
     try simp only [Act.put,lyA,lyB,lyC]
     refine wpAnyH_done (by kernel_rfl) ?_ _;refine NoPanic.normal ?_;have hb1:=ZZ (H2.out.boxn (g:=ga) (s:=s5) (A:=A5) (k:=k5) (ca:=ca5) (B:=B5) (l:=l5) (cb:=cb5) (by simp) (by simp):BoxN _ _ (evR a x));have hb2:=ZZ (H2.out.boxn (g:=gb) (s:=s6) (A:=A6) (k:=k6) (ca:=ca6) (B:=B6) (l:=l6) (cb:=cb6) (by simp) (by simp):BoxN _ _ (evR b x));go_wp2_with fail;go_meet;exact⟨hb1.out,hb2.out,ZZ H2.out.ext⟩
   case rest=>
    obtain⟨⟨gu,s5,A5,k5,ca5,B5,l5,cb5,rfl,ru,nu⟩,⟨gv,s6,A6,k6,ca6,B6,l6,cb6,rfl,rv,nv⟩,HE13⟩:=hcut;rename World=>W13;have RU:=ZZ ru;have NU:=ZZ nu;have RV:=ZZ rv;have NV:=ZZ nv;have RX13:=ZZ ((HE13.out.block _ (lt_of_block RX.out)).trans RX.out);have NX13:=ZZ (NX.out.mono HE13.out);have EW13:=ZZ (al EW12.out HE13.out)
    have BX1:=ZZ (show Bq 4001 (x+((1:Int):Rat)) from by
     have h:=BX0.out.add (bq_int 1 (by decide) (by decide));exact h.mono (by decide))
    clear ru nu rv nv HE13 EW12 RX NX HCa
    go_upto_region 13 with (fail)
    have HCb:=ZZ (show ∀W,Ext W13 W→W.cell? ⟨gx,0,none⟩=some (.bool s4)∧W.cell? ⟨gx,1,none⟩=some (.slice A4 k4 ca4)∧W.cell? ⟨gx,2,none⟩=some (.slice B4 l4 cb4) from fun W k=>by
     obtain⟨y0,y1,y2,-⟩:=aj ((k.block _ (lt_of_block RX13.out)).trans RX13.out);exact⟨y0,y1,y2⟩)
    go_cut [18] (fun p1 wx=>BoxS wx p1 (evS a (x,x+((1:Int):Rat))).1 (evS a (x,x+((1:Int):Rat))).2∧Hid (Ext W13 wx))
    case first=>
     refine wp_region_noPanic ?_;refine wp_region_held_drew (S:=fun W=>W.cell? ⟨gx,0,none⟩=some (.bool s4)∧W.cell? ⟨gx,1,none⟩=some (.slice A4 k4 ca4)∧W.cell? ⟨gx,2,none⟩=some (.slice B4 l4 cb4)) (by kernel_rfl) (HCb.out _ (ac _)) (fun hHeld=>?_);refine take_p (i:=0) 137 (v:=?vvb0) rfl rfl (by kernel_rfl) (by kernel_rfl) (by kernel_rfl) (fun _ _ _ h=>h) (Or.inl ⟨rfl,?hyb0⟩) (by assumption) ?rrb0
     case hyb0=>(intro w hSw;(try dsimp only at hSw);go_simp;try with_reducible rfl)
     try simp only [Act.put,lyA,lyB,lyC]
     refine take_p (i:=1) 138 (v:=?vvb1) rfl rfl (by kernel_rfl) (by kernel_rfl) (by kernel_rfl) (fun _ _ _ h=>h) (Or.inl ⟨rfl,?hyb1⟩) (by assumption) ?rrb1
     case hyb1=>(intro w hSw;(try dsimp only at hSw);go_simp;try with_reducible rfl)
     try simp only [Act.put,lyA,lyB,lyC]
     refine take_p (i:=2) 139 (v:=?vvb2) rfl rfl (by kernel_rfl) (by kernel_rfl) (by kernel_rfl) (fun _ _ _ h=>h) (Or.inl ⟨rfl,?hyb2⟩) (by assumption) ?rrb2
     case hyb2=>(intro w hSw;(try dsimp only at hSw);go_simp;try with_reducible rfl)
     try simp only [Act.put,lyA,lyB,lyC]
     refine free_q (J:=fun D y W=>Hid (Ext W13 W)∧Fc (D 3) (Nm W (y 3) ((1:Int):Rat))∧Fc (D 4) (Nm W (y 4) (x+((1:Int):Rat)))∧Fc (D 5) (Sp W (y 5) x (x+((1:Int):Rat)))∧Fc (D 6) (Sp W (y 6) (evS a (x,x+((1:Int):Rat))).1 (evS a (x,x+((1:Int):Rat))).2)∧Fc (D 7) (Nw W13 W (y 7) (.cells #[.bool false,.slice none 0 0,.slice none 0 0,.bool false,.slice none 0 0,.slice none 0 0] 37))) [(3,140),(4,141),(5,142),(6,143),(7,18)] 1 rfl (by kernel_rfl) (by kernel_rfl) (by assumption) (fun D y hD=>⟨ZZ (ac _),Fc.off (hD 3 (by simp)),Fc.off (hD 4 (by simp)),Fc.off (hD 5 (by simp)),Fc.off (hD 6 (by simp)),Fc.off (hD 7 (by simp))⟩) (met_cons ?mtb3 (met_cons ?mtb4 (met_cons ?mtb5 (met_cons ?mtb6 (met_cons ?mtb7 met_nil))))) (fun D y w hD hHeld hJ=>?finb)
     case mtb3=>
      refine Met.mq [] 140 rfl rfl (by kernel_rfl) (by kernel_rfl) (fun D y w hS hJ hD hd K hK=>?_);obtain⟨he,f3,f4,f5,f6,f7⟩:=hJ
      simp only [putsL,allOf,List.map_cons,List.map_nil,List.foldl_cons,List.foldl_nil,Act.put,List.setIfInBounds_toArray,List.set_cons_zero,List.set_cons_succ]
      go_simp
      go_at_call 11
      refine(int_q 1 (by decide) (by decide) _).mono ?_;rintro e X ⟨vr3,rfl,hv,kv⟩
      try go_wp2_with fail
      refine hK.out vr3 _ _ (by kernel_rfl) (HCb.out _ (al he.out kv)) (fun hHeld=>?_);exact⟨ZZ (al he.out kv),Fc.on hv,f4.map (·.mono kv),f5.map (·.mono kv),f6.map (·.mono kv),f7.map (·.mono kv)⟩
     case mtb4=>
      refine Met.mq [3] 141 rfl rfl (by kernel_rfl) (by kernel_rfl) (fun D y w hS hJ hD hd K hK=>?_);obtain⟨he,f3,f4,f5,f6,f7⟩:=hJ
      simp only [putsL,allOf,List.map_cons,List.map_nil,List.foldl_cons,List.foldl_nil,Act.put,List.setIfInBounds_toArray,List.set_cons_zero,List.set_cons_succ]
      go_simp
      go_at_call 44
      refine(add_q 4001 (by decide) _ _ x ((1:Int):Rat) _ (NX13.out.mono he.out) (f3.get (hd 3 (by simp))) BX.out ((bq_int 1 (by decide) (by decide)).mono (by decide))).mono ?_;rintro e X ⟨vr4,rfl,hv,kv⟩
      try go_wp2_with fail
      refine hK.out vr4 _ _ (by kernel_rfl) (HCb.out _ (al he.out kv)) (fun hHeld=>?_);exact⟨ZZ (al he.out kv),f3.map (·.mono kv),Fc.on hv,f5.map (·.mono kv),f6.map (·.mono kv),f7.map (·.mono kv)⟩
     case mtb5=>
      refine Met.mq [4] 142 rfl rfl (by kernel_rfl) (by kernel_rfl) (fun D y w hS hJ hD hd K hK=>?_);obtain⟨he,f3,f4,f5,f6,f7⟩:=hJ
      simp only [putsL,allOf,List.map_cons,List.map_nil,List.foldl_cons,List.foldl_nil,Act.put,List.setIfInBounds_toArray,List.set_cons_zero,List.set_cons_succ]
      obtain⟨s8,A8,k8,ca8,B8,l8,cb8,hz⟩:=(f4.get (hd 4 (by simp))).form2;have hn4:=f4.get (hd 4 (by simp));rw [hz] at hn4 ⊢
      go_simp
      refine hK.out (.agg #[.bool s4,.slice A4 k4 ca4,.slice B4 l4 cb4,.bool s8,.slice A8 k8 ca8,.slice B8 l8 cb8]) _ _ (by simp only [putsL,allOf,List.map_cons,List.map_nil,List.foldl_cons,List.foldl_nil,Act.put,List.setIfInBounds_toArray,List.set_cons_zero,List.set_cons_succ];rw [hz]) (HCb.out _ he.out) (fun hHeld=>?_);exact⟨he,f3,f4,Fc.on ⟨_,_,_,_,_,_,rfl,NX13.out.mono he.out,hn4⟩,f6,f7⟩
     case mtb6=>
      refine Met.mq [4,5] 143 rfl rfl (by kernel_rfl) (by kernel_rfl) (fun D y w hS hJ hD hd K hK=>?_);obtain⟨he,f3,f4,f5,f6,f7⟩:=hJ
      simp only [putsL,allOf,List.map_cons,List.map_nil,List.foldl_cons,List.foldl_nil,Act.put,List.setIfInBounds_toArray,List.set_cons_zero,List.set_cons_succ]
      go_simp
      go_at_call 10
      refine(span_x (N:=60) (M:=4001) (by decide) (by decide) (by decide) _ _ a x (x+((1:Int):Rat)) _ (PA.out.mono (al EW13.out he.out)) (f5.get (hd 5 (by simp))) BX.out BX1.out).mono ?_;rintro e X ⟨vr6,rfl,hv,kv⟩
      try go_wp2_with fail
      refine hK.out vr6 _ _ (by kernel_rfl) (HCb.out _ (al he.out kv)) (fun hHeld=>?_);exact⟨ZZ (al he.out kv),f3.map (·.mono kv),f4.map (·.mono kv),f5.map (·.mono kv),Fc.on hv,f7.map (·.mono kv)⟩
     case mtb7=>
      refine Met.mq [] 18 rfl rfl (by kernel_rfl) (by kernel_rfl) (fun D y w hS hJ hD hd K hK=>?_);obtain⟨he,f3,f4,f5,f6,f7⟩:=hJ
      simp only [putsL,allOf,List.map_cons,List.map_nil,List.foldl_cons,List.foldl_nil,Act.put,List.setIfInBounds_toArray,List.set_cons_zero,List.set_cons_succ]
      go_simp
      refine hK.out (.pointer (some ⟨w.heap.size,0,none⟩)) _ _ (by kernel_rfl) (HCb.out _ (al he.out (ab _ _))) (fun hHeld=>?_);exact⟨ZZ (al he.out (ab _ _)),f3.map (·.mono (ab _ _)),f4.map (·.mono (ab _ _)),f5.map (·.mono (ab _ _)),f6.map (·.mono (ab _ _)),Fc.on (Nw.new he.out _)⟩
     case finb=>
      obtain⟨he,f3,f4,f5,f6,f7⟩:=hJ;have n6:=f6.get (hD 6 (by simp));have n7:=f7.get (hD 7 (by simp))
      simp only [putsL,allOf,List.map_cons,List.map_nil,List.foldl_cons,List.foldl_nil,Act.put,List.setIfInBounds_toArray,List.set_cons_zero,List.set_cons_succ]
      clear f3 f4 f5 f6 f7 hD;generalize y 6=z6 at n6 ⊢;generalize y 7=z7 at n7 ⊢;obtain⟨s9,A9,k9,ca9,B9,l9,cb9,s10,A10,k10,ca10,B10,l10,cb10,rfl,hn9,hn10⟩:=n6.form;obtain⟨ga,rfl,ha7,hb7⟩:=n7;have H0:=ZZ (show RgS W13 w [(ga,(.cells #[.bool false,.slice none 0 0,.slice none 0 0,.bool false,.slice none 0 0,.slice none 0 0] 37))] [(.agg #[.bool s9,.slice A9 k9 ca9,.slice B9 l9 cb9],(evS a (x,x+((1:Int):Rat))).1),(.agg #[.bool s10,.slice A10 k10 ca10,.slice B10 l10 cb10],(evS a (x,x+((1:Int):Rat))).2)] from ⟨he.out,(by intro p hp;simp only [List.mem_cons,List.mem_nil_iff,or_false] at hp;subst hp;exact⟨ha7,hb7⟩),(by intro p hp;simp only [List.mem_cons,List.mem_nil_iff,or_false] at hp;rcases hp with rfl|rfl;exact hn9;exact hn10)⟩);clear n6 hn9 hn10 ha7 hb7 he;refine call_p (i:=8) none rfl rfl (by kernel_rfl) (fun K hK=>?_);obtain⟨zz0,zz1,zz2,zz3,zz4,zz5,zf0,zf1,zf2,zf3,zf4,zf5⟩:=ai (H0.out.keep (ga,(.cells #[.bool false,.slice none 0 0,.slice none 0 0,.bool false,.slice none 0 0,.slice none 0 0] 37)) (by simp)).2
      go_simp
      clear zz0 zz1 zz2 zz3 zz4 zz5 zf0 zf1 zf2 zf3 zf4 zf5;generalize hWP:World.setCell (World.setCell (World.setCell (World.setCell (World.setCell (World.setCell (w) ⟨ga,0,none⟩ (.bool s9)) ⟨ga,1,none⟩ (.slice A9 k9 ca9)) ⟨ga,2,none⟩ (.slice B9 l9 cb9)) ⟨ga,3,none⟩ (.bool s10)) ⟨ga,4,none⟩ (.slice A10 k10 ca10)) ⟨ga,5,none⟩ (.slice B10 l10 cb10)=X1;have hPP:=H0.out.put6 (g:=ga) (s:=false) (A:=none) (k:=0) (ca:=0) (B:=none) (l:=0) (cb:=0) (s':=false) (A':=none) (k':=0) (ca':=0) (B':=none) (l':=0) (cb':=0) (T:=37) (by simp) (.bool s9) (.slice A9 k9 ca9) (.slice B9 l9 cb9) (.bool s10) (.slice A10 k10 ca10) (.slice B10 l10 cb10);rw [show put6 w ga (.bool s9) (.slice A9 k9 ca9) (.slice B9 l9 cb9) (.bool s10) (.slice A10 k10 ca10) (.slice B10 l10 cb10)=X1 from hWP] at hPP;have H1:=ZZ (hPP.sub (ks':=[(ga,.cells #[.bool s9,.slice A9 k9 ca9,.slice B9 l9 cb9,.bool s10,.slice A10 k10 ca10,.slice B10 l10 cb10] 37)]) (by intro p hp;simp only [List.mem_cons,List.mem_nil_iff,or_false] at hp;subst hp;simp));clear hPP hWP;refine hK.out _ _ (HCb.out _ H1.out.ext) (fun hHeld=>?_);clear hK K
      try simp only [Act.put,lyA,lyB,lyC]
      refine wpAnyH_done (by kernel_rfl) ?_ _;refine NoPanic.normal ?_;have hb1:=ZZ (show BoxS _ (.pointer (some ⟨ga,0,none⟩)) (evS a (x,x+((1:Int):Rat))).1 (evS a (x,x+((1:Int):Rat))).2 from ⟨ga,s9,A9,k9,ca9,B9,l9,cb9,s10,A10,k10,ca10,B10,l10,cb10,rfl,(H1.out.keep (ga,.cells #[.bool s9,.slice A9 k9 ca9,.slice B9 l9 cb9,.bool s10,.slice A10 k10 ca10,.slice B10 l10 cb10] 37) (by simp)).2,_,_,_,_,_,_,rfl,H1.out.nn (.agg #[.bool s9,.slice A9 k9 ca9,.slice B9 l9 cb9],_) (by simp),H1.out.nn (.agg #[.bool s10,.slice A10 k10 ca10,.slice B10 l10 cb10],_) (by simp)⟩);go_wp2_with fail;go_meet;exact⟨hb1.out,ZZ H1.out.ext⟩
    case rest=>
     obtain⟨⟨gs,s9,A9,k9,ca9,B9,l9,cb9,s10,A10,k10,ca10,B10,l10,cb10,rfl,rs,ns⟩,HE14⟩:=hcut;rename World=>W14
     have HCc:=ZZ (show ∀W,Ext W14 W→W.cell? ⟨gx,0,none⟩=some (.bool s4)∧W.cell? ⟨gx,1,none⟩=some (.slice A4 k4 ca4)∧W.cell? ⟨gx,2,none⟩=some (.slice B4 l4 cb4)∧W.cell? ⟨gu,0,none⟩=some (.bool s5)∧W.cell? ⟨gu,1,none⟩=some (.slice A5 k5 ca5)∧W.cell? ⟨gu,2,none⟩=some (.slice B5 l5 cb5)∧W.cell? ⟨gv,0,none⟩=some (.bool s6)∧W.cell? ⟨gv,1,none⟩=some (.slice A6 k6 ca6)∧W.cell? ⟨gv,2,none⟩=some (.slice B6 l6 cb6)∧W.cell? ⟨gs,0,none⟩=some (.bool s9)∧W.cell? ⟨gs,1,none⟩=some (.slice A9 k9 ca9)∧W.cell? ⟨gs,2,none⟩=some (.slice B9 l9 cb9)∧W.cell? ⟨gs,3,none⟩=some (.bool s10)∧W.cell? ⟨gs,4,none⟩=some (.slice A10 k10 ca10)∧W.cell? ⟨gs,5,none⟩=some (.slice B10 l10 cb10) from fun W k=>by
      obtain⟨x0,x1,x2,-⟩:=aj (((al HE14.out k).block _ (lt_of_block RX13.out)).trans RX13.out);obtain⟨y0,y1,y2,-⟩:=aj (((al HE14.out k).block _ (lt_of_block RU.out)).trans RU.out);obtain⟨z0,z1,z2,-⟩:=aj (((al HE14.out k).block _ (lt_of_block RV.out)).trans RV.out);obtain⟨t0,t1,t2,t3,t4,t5,-⟩:=ai ((k.block _ (lt_of_block rs)).trans rs);exact⟨x0,x1,x2,y0,y1,y2,z0,z1,z2,t0,t1,t2,t3,t4,t5⟩)
     have NX14:=ZZ (NX13.out.mono HE14.out);have NU14:=ZZ (NU.out.mono HE14.out);have NV14:=ZZ (NV.out.mono HE14.out);have SS14:=ZZ ns;have EW14:=ZZ (al EW13.out HE14.out);have BU:=ZZ (bq_evx (K:=480181) PA.out BX.out (by decide));have BV:=ZZ (bq_evx (K:=480181) PB.out BX.out (by decide));have BS:=ZZ (bq_evs (K:=480181) (a:=(x,x+((1:Int):Rat))) PA.out ⟨BX.out,BX1.out⟩ (by decide));clear rs ns HE14 EW13 RX13 NX13 HCb RU RV NU NV;have hun:undef=.tuple #[]:=rfl
     go_upto_region 14 with (fail)
     refine wp_region_noPanic ?_;refine wp_region_held_drew (S:=fun W=>W.cell? ⟨gx,0,none⟩=some (.bool s4)∧W.cell? ⟨gx,1,none⟩=some (.slice A4 k4 ca4)∧W.cell? ⟨gx,2,none⟩=some (.slice B4 l4 cb4)∧W.cell? ⟨gu,0,none⟩=some (.bool s5)∧W.cell? ⟨gu,1,none⟩=some (.slice A5 k5 ca5)∧W.cell? ⟨gu,2,none⟩=some (.slice B5 l5 cb5)∧W.cell? ⟨gv,0,none⟩=some (.bool s6)∧W.cell? ⟨gv,1,none⟩=some (.slice A6 k6 ca6)∧W.cell? ⟨gv,2,none⟩=some (.slice B6 l6 cb6)∧W.cell? ⟨gs,0,none⟩=some (.bool s9)∧W.cell? ⟨gs,1,none⟩=some (.slice A9 k9 ca9)∧W.cell? ⟨gs,2,none⟩=some (.slice B9 l9 cb9)∧W.cell? ⟨gs,3,none⟩=some (.bool s10)∧W.cell? ⟨gs,4,none⟩=some (.slice A10 k10 ca10)∧W.cell? ⟨gs,5,none⟩=some (.slice B10 l10 cb10)) (by kernel_rfl) (HCc.out _ (ac _)) (fun hHeld=>?_);refine take_p (i:=0) 144 (v:=?vvc0) rfl rfl (by kernel_rfl) (by kernel_rfl) (by kernel_rfl) (fun _ _ _ h=>h) (Or.inl ⟨rfl,?hyc0⟩) (by assumption) ?rrc0
     case hyc0=>(intro w hSw;(try dsimp only at hSw);go_simp;try with_reducible rfl)
     try simp only [Act.put,lyA,lyB,lyC]
     refine take_p (i:=1) 145 (v:=?vvc1) rfl rfl (by kernel_rfl) (by kernel_rfl) (by kernel_rfl) (fun _ _ _ h=>h) (Or.inl ⟨rfl,?hyc1⟩) (by assumption) ?rrc1
     case hyc1=>(intro w hSw;(try dsimp only at hSw);go_simp;try with_reducible rfl)
     try simp only [Act.put,lyA,lyB,lyC]
     refine take_p (i:=3) 147 (v:=?vvc3) rfl rfl (by kernel_rfl) (by kernel_rfl) (by kernel_rfl) (fun _ _ _ h=>h) (Or.inl ⟨rfl,?hyc3⟩) (by assumption) ?rrc3
     case hyc3=>(intro w hSw;(try dsimp only at hSw);go_simp;try with_reducible rfl)
     try simp only [Act.put,lyA,lyB,lyC]
     refine take_p (i:=4) 148 (v:=?vvc4) rfl rfl (by kernel_rfl) (by kernel_rfl) (by kernel_rfl) (fun _ _ _ h=>h) (Or.inl ⟨rfl,?hyc4⟩) (by assumption) ?rrc4
     case hyc4=>(intro w hSw;(try dsimp only at hSw);go_simp;try with_reducible rfl)
     try simp only [Act.put,lyA,lyB,lyC]
     refine call_p (i:=2) (some 146) rfl rfl (by kernel_rfl) (fun K hK=>?_)
     go_simp
     go_at_call 39
     refine(eval_x (N:=120) (M:=480181) (K:=115723742) (by decide) (by decide) (by decide) (by decide) _ _ (mulF a b) x _ (PAB.out.mono (al EW14.out (ac W14))) (NX14.out.mono (ac W14)) (BX.out.mono (by decide))).mono ?_;rintro e r2 ⟨vv92,rfl,hv,kv⟩;have KR2:=ZZ (show Ext W14 r2 from al (ac W14) kv);obtain⟨s11,A11,k11,ca11,B11,l11,cb11,rfl⟩:=hv.form2;rw [ev_mulF] at hv;have N11:=ZZ hv;clear hv kv
     try go_wp2_with fail
     refine hK.out _ _ (HCc.out _ KR2.out) (fun hHeld=>?_);clear hK K
     try simp only [Act.put,lyA,lyB,lyC]
     refine call_p (i:=5) (some 149) rfl rfl (by kernel_rfl) (fun K hK=>?_)
     go_simp
     go_at_call 45
     refine(mul_q 480181 (by decide) _ _ (evR a x) (evR b x) _ (NU14.out.mono KR2.out) (NV14.out.mono KR2.out) BU.out BV.out).mono ?_;rintro e r5 ⟨vv95,rfl,hv,kv⟩;have KR5:=ZZ (show Ext W14 r5 from al KR2.out kv);obtain⟨s12,A12,k12,ca12,B12,l12,cb12,rfl⟩:=hv.form2;have N11:=ZZ (N11.out.mono kv);have N12:=ZZ hv;clear hv kv
     try go_wp2_with fail
     refine hK.out _ _ (HCc.out _ KR5.out) (fun hHeld=>?_);clear hK K
     try simp only [Act.put,lyA,lyB,lyC]
     refine call_p (i:=6) (some 150) rfl rfl (by kernel_rfl) (fun K hK=>?_)
     go_simp
     go_at_call 16
     refine(cmp_q 960362 (by decide) _ _ (evR a x*evR b x) (evR a x*evR b x) _ N11.out N12.out ((BU.out.mul BV.out).mono (by decide)) ((BU.out.mul BV.out).mono (by decide))).mono ?_;rintro e r6 ⟨rfl,kv⟩;have KR6:=ZZ (show Ext W14 r6 from al KR5.out kv);rw [cmp_self];clear kv N11 N12
     try go_wp2_with fail
     refine hK.out _ _ (HCc.out _ KR6.out) (fun hHeld=>?_);clear hK K
     try simp only [Act.put,lyA,lyB,lyC]
     refine take_p (i:=7) 151 (v:=?vvc7) rfl rfl (by kernel_rfl) (by kernel_rfl) (by kernel_rfl) (fun _ _ _ h=>h) (Or.inl ⟨rfl,?hyc7⟩) (by assumption) ?rrc7
     case hyc7=>(intro w hSw;(try dsimp only at hSw);go_simp;try with_reducible rfl)
     try simp only [Act.put,lyA,lyB,lyC]
     refine take_p (i:=8) 152 (v:=?vvc8) rfl rfl (by kernel_rfl) (by kernel_rfl) (by kernel_rfl) (fun _ _ _ h=>h) (Or.inl ⟨rfl,?hyc8⟩) (by assumption) ?rrc8
     case hyc8=>(intro w hSw;(try dsimp only at hSw);go_simp;try with_reducible rfl)
     try simp only [Act.put,lyA,lyB,lyC]
     refine take_p (i:=9) 153 (v:=?vvc9) rfl rfl (by kernel_rfl) (by kernel_rfl) (by kernel_rfl) (fun _ _ _ h=>h) (Or.inl ⟨rfl,?hyc9⟩) (by assumption) ?rrc9
     case hyc9=>(intro w hSw;(try dsimp only at hSw);go_simp;try with_reducible rfl)
     try simp only [Act.put,lyA,lyB,lyC]
     refine take_p (i:=10) 154 (v:=?vvc10) rfl rfl (by kernel_rfl) (by kernel_rfl) (by kernel_rfl) (fun _ _ _ h=>h) (Or.inl ⟨rfl,?hyc10⟩) (by assumption) ?rrc10
     case hyc10=>(intro w hSw;(try dsimp only at hSw);go_simp;try with_reducible rfl)
     try simp only [Act.put,lyA,lyB,lyC]
     refine take_p (i:=12) 156 (v:=?vvc12) rfl rfl (by kernel_rfl) (by kernel_rfl) (by kernel_rfl) (fun _ _ _ h=>h) (Or.inl ⟨rfl,?hyc12⟩) (by assumption) ?rrc12
     case hyc12=>(intro w hSw;(try dsimp only at hSw);go_simp;try with_reducible rfl)
     try simp only [Act.put,lyA,lyB,lyC]
     refine take_p (i:=14) 158 (v:=?vvc14) rfl rfl (by kernel_rfl) (by kernel_rfl) (by kernel_rfl) (fun _ _ _ h=>h) (Or.inl ⟨rfl,?hyc14⟩) (by assumption) ?rrc14
     case hyc14=>(intro w hSw;(try dsimp only at hSw);go_simp;try with_reducible rfl)
     try simp only [Act.put,lyA,lyB,lyC]
     refine take_p (i:=15) 159 (v:=?vvc15) rfl rfl (by kernel_rfl) (by kernel_rfl) (by kernel_rfl) (fun _ _ _ h=>h) (Or.inl ⟨rfl,?hyc15⟩) (by assumption) ?rrc15
     case hyc15=>(intro w hSw;(try dsimp only at hSw);go_simp;try with_reducible rfl)
     try simp only [Act.put,lyA,lyB,lyC]
     refine call_p (i:=11) (some 155) rfl rfl (by kernel_rfl) (fun K hK=>?_)
     go_simp
     go_at_call 28
     refine(add_x (N1:=60) (N2:=60) (M:=4001) (N:=60) (K:=8003) (by decide) (by decide) (by decide) (by decide) (by decide) (by decide) _ _ _ _ _ (PA.out.mono (al EW14.out KR6.out)) (PB.out.mono (al EW14.out KR6.out))).mono ?_;rintro e r11 ⟨vv911,rfl,hv,kv⟩;have KR11:=ZZ (show Ext W14 r11 from al KR6.out kv);have N13:=ZZ hv;clear hv kv
     try go_wp2_with fail
     refine hK.out _ _ (HCc.out _ KR11.out) (fun hHeld=>?_);clear hK K
     try simp only [Act.put,lyA,lyB,lyC]
     refine call_p (i:=13) (some 157) rfl rfl (by kernel_rfl) (fun K hK=>?_)
     go_simp
     go_at_call 39
     refine(eval_x (N:=60) (M:=8003) (K:=968424) (by decide) (by decide) (by decide) (by decide) _ _ (addF a b) x _ N13.out (NX14.out.mono KR11.out) (BX.out.mono (by decide))).mono ?_;rintro e r13 ⟨vv913,rfl,hv,kv⟩;have KR13:=ZZ (show Ext W14 r13 from al KR11.out kv);obtain⟨s13,A13,k13,ca13,B13,l13,cb13,rfl⟩:=hv.form2;rw [ev_addF] at hv;have N14:=ZZ hv;clear hv kv N13
     try go_wp2_with fail
     refine hK.out _ _ (HCc.out _ KR13.out) (fun hHeld=>?_);clear hK K
     try simp only [Act.put,lyA,lyB,lyC]
     refine call_p (i:=16) (some 160) rfl rfl (by kernel_rfl) (fun K hK=>?_)
     go_simp
     go_at_call 44
     refine(add_q 480181 (by decide) _ _ (evR a x) (evR b x) _ (NU14.out.mono KR13.out) (NV14.out.mono KR13.out) BU.out BV.out).mono ?_;rintro e r16 ⟨vv916,rfl,hv,kv⟩;have KR16:=ZZ (show Ext W14 r16 from al KR13.out kv);obtain⟨s14,A14,k14,ca14,B14,l14,cb14,rfl⟩:=hv.form2;have N14:=ZZ (N14.out.mono kv);have N15:=ZZ hv;clear hv kv
     try go_wp2_with fail
     refine hK.out _ _ (HCc.out _ KR16.out) (fun hHeld=>?_);clear hK K
     try simp only [Act.put,lyA,lyB,lyC]
     refine call_p (i:=17) (some 161) rfl rfl (by kernel_rfl) (fun K hK=>?_)
     go_simp
     go_at_call 16
     refine(cmp_q 960363 (by decide) _ _ (evR a x+evR b x) (evR a x+evR b x) _ N14.out N15.out ((BU.out.add BV.out).mono (by decide)) ((BU.out.add BV.out).mono (by decide))).mono ?_;rintro e r17 ⟨rfl,kv⟩;have KR17:=ZZ (show Ext W14 r17 from al KR16.out kv);rw [cmp_self];clear kv N14 N15
     try go_wp2_with fail
     refine hK.out _ _ (HCc.out _ KR17.out) (fun hHeld=>?_);clear hK K
     try simp only [Act.put,lyA,lyB,lyC]
     refine take_p (i:=18) 162 (v:=?vvc18) rfl rfl (by kernel_rfl) (by kernel_rfl) (by kernel_rfl) (fun _ _ _ h=>h) (Or.inl ⟨rfl,?hyc18⟩) (by assumption) ?rrc18
     case hyc18=>(intro w hSw;(try dsimp only at hSw);go_simp;try with_reducible rfl)
     try simp only [Act.put,lyA,lyB,lyC]
     refine take_p (i:=19) 163 (v:=?vvc19) rfl rfl (by kernel_rfl) (by kernel_rfl) (by kernel_rfl) (fun _ _ _ h=>h) (Or.inl ⟨rfl,?hyc19⟩) (by assumption) ?rrc19
     case hyc19=>(intro w hSw;(try dsimp only at hSw);go_simp;try with_reducible rfl)
     try simp only [Act.put,lyA,lyB,lyC]
     refine take_p (i:=20) 164 (v:=?vvc20) rfl rfl (by kernel_rfl) (by kernel_rfl) (by kernel_rfl) (fun _ _ _ h=>h) (Or.inl ⟨rfl,?hyc20⟩) (by assumption) ?rrc20
     case hyc20=>(intro w hSw;(try dsimp only at hSw);go_simp;try with_reducible rfl)
     try simp only [Act.put,lyA,lyB,lyC]
     refine take_p (i:=21) 165 (v:=?vvc21) rfl rfl (by kernel_rfl) (by kernel_rfl) (by kernel_rfl) (fun _ _ _ h=>h) (Or.inl ⟨rfl,?hyc21⟩) (by assumption) ?rrc21
     case hyc21=>(intro w hSw;(try dsimp only at hSw);go_simp;try with_reducible rfl)
     try simp only [Act.put,lyA,lyB,lyC]
     refine take_p (i:=22) 166 (v:=?vvc22) rfl rfl (by kernel_rfl) (by kernel_rfl) (by kernel_rfl) (fun _ _ _ h=>h) (Or.inl ⟨rfl,?hyc22⟩) (by assumption) ?rrc22
     case hyc22=>(intro w hSw;(try dsimp only at hSw);go_simp;try with_reducible rfl)
     try simp only [Act.put,lyA,lyB,lyC]
     refine call_p (i:=23) (some 167) rfl rfl (by kernel_rfl) (fun K hK=>?_)
     go_simp
     go_at_call 46
     refine(has_c 480181 (by decide) _ _ (evS a (x,x+((1:Int):Rat))).1 (evS a (x,x+((1:Int):Rat))).2 (evR a x) true (has_ev a x _) _ (SS14.out.mono KR17.out) (NU14.out.mono KR17.out) BS.out.1 BS.out.2 BU.out).mono ?_;rintro e r23 ⟨rfl,kv⟩;have KR23:=ZZ (show Ext W14 r23 from al KR17.out kv);clear kv
     try go_wp2_with fail
     refine hK.out _ _ (HCc.out _ KR23.out) (fun hHeld=>?_);clear hK K
     try simp only [Act.put,lyA,lyB,lyC]
     refine take_p (i:=24) 168 (v:=?vvc24) rfl rfl (by kernel_rfl) (by kernel_rfl) (by kernel_rfl) (fun _ _ _ h=>h) (Or.inl ⟨rfl,?hyc24⟩) (by assumption) ?rrc24
     case hyc24=>(intro w hSw;(try dsimp only at hSw);go_simp;try with_reducible rfl)
     try simp only [Act.put,lyA,lyB,lyC]
     refine take_p (i:=25) 169 (v:=?vvc25) rfl rfl (by kernel_rfl) (by kernel_rfl) (by kernel_rfl) (fun _ _ _ h=>h) (Or.inl ⟨rfl,?hyc25⟩) (by assumption) ?rrc25
     case hyc25=>(intro w hSw;(try dsimp only at hSw);go_simp;try with_reducible rfl)
     try simp only [Act.put,lyA,lyB,lyC]
     refine call_p (i:=26) (some 170) rfl rfl (by kernel_rfl) (fun K hK=>?_)
     go_simp
     go_at_call 20
     refine(awake_p _ (HT.out.mono (al KB.out (al EW14.out KR23.out)))).mono ?_;rintro e r26 ⟨rfl,kv⟩;have KR26:=ZZ (show Ext W14 r26 from al KR23.out kv);clear kv
     try go_wp2_with fail
     refine hK.out _ _ (HCc.out _ KR26.out) (fun hHeld=>?_);clear hK K
     try simp only [Act.put,lyA,lyB,lyC]
     refine take_p (i:=27) 171 (v:=?vvc27) rfl rfl (by kernel_rfl) (by kernel_rfl) (by kernel_rfl) (fun _ _ _ h=>h) (Or.inl ⟨rfl,?hyc27⟩) (by assumption) ?rrc27
     case hyc27=>(intro w hSw;(try dsimp only at hSw);go_simp;try with_reducible rfl)
     try simp only [Act.put,lyA,lyB,lyC]
     refine take_p (i:=28) 6 (v:=?vvc28) rfl rfl (by kernel_rfl) (by kernel_rfl) (by kernel_rfl) (fun _ _ _ h=>h) (Or.inl ⟨rfl,?hyc28⟩) (by assumption) ?rrc28
     case hyc28=>(intro w hSw;(try dsimp only at hSw);go_simp;try with_reducible rfl)
     try simp only [Act.put,lyA,lyB,lyC]
     refine wpAnyH_done (by kernel_rfl) ?_ _;refine NoPanic.normal ?_;go_wp2_with fail;go_ret;exact⟨rfl,al KB.out (al EW14.out KR26.out)⟩
end Go.Proofs.YtjamgccgoapbeaaGreatDoor
