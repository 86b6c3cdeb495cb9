/- Numbers: rounding. Printed by gen_nh.py. Multiples of polynomials. A store of a number into a row of the call's own. Plain laws of decimal numerals. Texts: rows of digits. -/
import Derived.Test.YtoefieefcndlkaaGreatDoorGNg
import Derived.Test.YtoefieefcndlkaaGreatDoorGQp
import Derived.Test.YtoefieefcndlkaaGreatDoorGWj
import Derived.Lib.ItoaNum
import Derived.Test.YtoefieefcndlkaaGreatDoorGShelf
import Derived.Test.YtoefieefcndlkaaGreatDoorGRat
import Derived.Shelf.Strings.SlTrimAscii
set_option linter.unusedVariables false
set_option maxRecDepth 100000
set_option maxHeartbeats 64000000
namespace Go.Proofs.YtoefieefcndlkaaGreatDoor
open Go.RowKit
theorem up_c (va:Value) (n k:Nat) (w:World) (ha:Wd w va n) (sa:Sm n) (hk:k≤70368744177664):Calls Tryz.prog 149 #[va,.int .i64 k] w fun e w'=>∃v,e=.returned v∧Wd w' v (n*2 ^ k)∧Ext w w':=by
 refine(up_r va n k w ha sa hk).mono ?_;rintro e w' ⟨⟨r,rfl,h1,h2,h3,h4⟩,h5⟩;exact⟨_,rfl,by rw [←h4];exact cut_w h2 h3.cl (by omega),h5⟩
def shQ (x:Rat) (k:Int):Rat:=if k<0 then rat (decide (x.num<0)) x.num.natAbs (x.den*2 ^ k.natAbs) else rat (decide (x.num<0)) (x.num.natAbs*2 ^ k.natAbs) x.den
theorem lt_shift {n B k:Nat} (h:n<2 ^ B):n*2 ^ k<2 ^ (B+k):=by
 rw [Nat.pow_add];exact Nat.mul_lt_mul_of_pos_right h (Nat.pow_pos (by decide))
theorem Bq.sh {B:Nat} {x:Rat} {k:Int} (h:Bq B x):Bq (B+k.natAbs) (shQ x k):=by
 unfold shQ;have hp:0<x.den:=x.den_pos
 split
 ·exact bq_rat (lt_mono h.1 (by omega)) (lt_shift h.2) (Nat.ne_of_gt (Nat.mul_pos hp (Nat.pow_pos (by decide))))
 ·exact bq_rat (lt_shift h.1) (lt_mono h.2 (by omega)) (Nat.ne_of_gt hp)
theorem shifted_up (M:Nat) (hM:M≤1099511627776) (j:Nat) (hj:j≤1099511627776) (vx:Value) (x:Rat) (w:World) (hx:Nm w vx x) (bx:Bq M x):Calls Tryz.prog 114 #[vx,.int .i64 j] w fun e w'=>∃v,e=.returned v∧Nm w' v (shQ x j)∧Ext w w':=by
 have S1:=ZZ (sm_of_lt bx.1 (by omega));have S2:=ZZ (sm_of_lt bx.2 (by omega));have S3:=ZZ (sm_of_lt (lt_shift (k:=j) bx.1) (by omega));have D0:=ZZ x.den_pos;have HJ:=ZZ hj;have q1:(0:Int)≤(j:Int):=by omega
 have q2:¬(j:Int)<0:=by omega
 clear hj bx hM;obtain⟨A,k,ca,B,l,cb,rfl,hxn,hxd,hkx,hlx⟩:=hx.form;have Hx:=ZZ hx;have Hxn:=ZZ hxn;have Hkx:=ZZ hkx;have Hlx:=ZZ hlx;clear hx hxn hxd hkx hlx;generalize hbx:decide (x.num<0)=b1 at *;have Hbx:=ZZ hbx;clear hbx;obtain⟨hS,hZ,hw1,hw2,hsz,hsz1⟩:=setup1 w (.bool b1) (.slice A k ca) (.slice B l cb);have HS:=ZZ hS;have HZ:=ZZ hZ;have HW1:=ZZ hw1;have HW2:=ZZ hw2;have Hsz1:=ZZ hsz1;clear hS hZ hw1 hw2 hsz hsz1
 go_enter Tryz.func114,Tryz.ntmps114
 go_wp2_with fail;generalize World.alloc (World.alloc w (.cells #[.bool b1,.slice A k ca,.slice B l cb] _)) _=W2 at *
 generalize World.alloc w (.cells #[.bool b1,.slice A k ca,.slice B l cb] _)=W1 at *;generalize hg0:w.heap.size=g0 at *;have Hsz:=ZZ (show w.heap.size≤g0+1 by omega);clear hg0;have hww:=ZZ (ak HW1.out HW2.out);have hx0:=ZZ (ae W2);have hS0:=HS.out _ (ak HW2.out hx0.out);have e1:=ZZ (ac W2);have hx1:=ZZ (ak hx0.out e1.out)
 go_region_held3 (fun W=>W.cell? ⟨g0,0,none⟩=some (.bool b1)∧W.cell? ⟨g0,1,none⟩=some (.slice A k ca)∧W.cell? ⟨g0,2,none⟩=some (.slice B l cb))
  (first
   | exact HS.out _ (al (ak HW2.out hx4.out) Hsz1.out _ _ _)
   | exact HS.out _ (ak HW2.out hx4.out)
   | exact HS.out _ (ak HW2.out hx3.out)
   | exact HS.out _ (ak HW2.out hx2.out)
   | exact HS.out _ (ak HW2.out hx1.out))
  (first
   |(have _q:=hx3
     go_at_call 51
     refine(reduced_c _ _ _ _ _ _ (H2.out.mono e3.out) H3.out S3.out S2.out D0.out).mono ?_;clear _q;rintro e w3 ⟨vv,rfl,h4,k4⟩;obtain⟨b3,P3,p3,c3,Q3,q3,d3,rfl⟩:=h4.form2;have H4:=ZZ h4;clear h4;have e4:=ZZ k4;have hx4:=ZZ (ak hx3.out k4);clear k4;have hz:=HZ.out _ hx4.out;obtain⟨z0,z1,z2,f0,f1,f2⟩:=ai hz;have Hz:=ZZ hz;clear hz)
   |(have _q:=hx2
     go_at_call 100
     refine(under_c _ _ _ (Hx.out.mono (ak hww.out hx2.out))).mono ?_;clear _q;rintro e w2 ⟨vv,rfl,h3,k3⟩;obtain⟨P2,p2,c2,rfl⟩:=h3.form';have H3:=ZZ h3;clear h3;have e3:=ZZ k3;have hx3:=ZZ (ak hx2.out k3);clear k3)
   |(have _q:=hx1
     go_at_call 149
     refine(up_c _ _ _ _ (Hxn.out.mono (ak hww.out hx1.out)) S1.out (Nat.le_trans HJ.out (by decide))).mono ?_;clear _q;rintro e w1 ⟨vv,rfl,h2,k2⟩;obtain⟨P1,p1,c1,rfl⟩:=h2.form';have H2:=ZZ h2;clear h2;have e2:=ZZ k2;have hx2:=ZZ (ak hx1.out k2);clear k2))
 go_wp2_with fail;refine bodyPost_ret (v:=.agg #[.bool b3,.slice P3 p3 c3,.slice Q3 q3 d3]) (by simp [results,Tryz.f114];go_simp) rfl ?_
 refine⟨_,rfl,?_,al (ak hww.out hx4.out) Hsz.out _ _ _⟩
 have hr:rat b1 (x.num.natAbs*2 ^ j) x.den=shQ x (j:Int):=by
  unfold shQ;rw [if_neg (by omega),Hbx.out];rfl
 rw [←hr];exact H4.out.put3 Hz.out
theorem shifted_down (M:Nat) (hM:M≤1099511627776) (j:Nat) (h0:0<j) (hj:j≤1099511627776) (vx:Value) (x:Rat) (w:World) (hx:Nm w vx x) (bx:Bq M x):Calls Tryz.prog 114 #[vx,.int .i64 (-(j:Int))] w fun e w'=>∃v,e=.returned v∧Nm w' v (shQ x (-(j:Int)))∧Ext w w':=by
 have S1:=ZZ (sm_of_lt bx.1 (by omega));have S2:=ZZ (sm_of_lt bx.2 (by omega));have S3:=ZZ (sm_of_lt (lt_shift (k:=j) bx.2) (by omega));have D0:=ZZ (Nat.mul_pos x.den_pos (Nat.pow_pos (n:=j) (show 0<2 by decide)));have HJ:=ZZ hj;have HP:=ZZ h0;have q2:-(j:Int)<0:=by omega
 have q3:decide (-(j:Int)<0)=true:=by rw [decide_eq_true_eq];omega
 have q4:IntKind.i64.wrap (j:Int)=(j:Int):=IntWalk.i64_in _ (by omega);have q5:IntKind.i64.wrap (- -(j:Int))=(j:Int):=IntWalk.i64_in _ (by omega) |>.trans (by omega)
 clear hj bx hM h0;obtain⟨A,k,ca,B,l,cb,rfl,hxn,hxd,hkx,hlx⟩:=hx.form;have Hx:=ZZ hx;have Hxn:=ZZ hxn;have Hkx:=ZZ hkx;have Hlx:=ZZ hlx;clear hx hxn hxd hkx hlx;generalize hbx:decide (x.num<0)=b1 at *;have Hbx:=ZZ hbx;clear hbx;obtain⟨hS,hZ,hw1,hw2,hsz,hsz1⟩:=setup1 w (.bool b1) (.slice A k ca) (.slice B l cb);have HS:=ZZ hS;have HZ:=ZZ hZ;have HW1:=ZZ hw1;have HW2:=ZZ hw2;have Hsz1:=ZZ hsz1;clear hS hZ hw1 hw2 hsz hsz1
 go_enter Tryz.func114,Tryz.ntmps114
 go_wp2_with fail;generalize World.alloc (World.alloc w (.cells #[.bool b1,.slice A k ca,.slice B l cb] _)) _=W2 at *
 generalize World.alloc w (.cells #[.bool b1,.slice A k ca,.slice B l cb] _)=W1 at *;generalize hg0:w.heap.size=g0 at *;have Hsz:=ZZ (show w.heap.size≤g0+1 by omega);clear hg0;have hww:=ZZ (ak HW1.out HW2.out);have hx0:=ZZ (ae W2);have hS0:=HS.out _ (ak HW2.out hx0.out);have e1:=ZZ (ac W2);have hx1:=ZZ (ak hx0.out e1.out)
 go_region_held3 (fun W=>W.cell? ⟨g0,0,none⟩=some (.bool b1)∧W.cell? ⟨g0,1,none⟩=some (.slice A k ca)∧W.cell? ⟨g0,2,none⟩=some (.slice B l cb))
  (first
   | exact HS.out _ (al (ak HW2.out hx4.out) Hsz1.out _ _ _)
   | exact HS.out _ (ak HW2.out hx4.out)
   | exact HS.out _ (ak HW2.out hx3.out)
   | exact HS.out _ (ak HW2.out hx2.out)
   | exact HS.out _ (ak HW2.out hx1.out))
  (first
   |(have _q:=hx3
     go_at_call 51
     refine(reduced_c _ _ _ _ _ _ (Hxn.out.mono (ak hww.out hx3.out)) H3.out S1.out S3.out D0.out).mono ?_;clear _q;rintro e w3 ⟨vv,rfl,h4,k4⟩;obtain⟨b3,P3,p3,c3,Q3,q3,d3,rfl⟩:=h4.form2;have H4:=ZZ h4;clear h4;have e4:=ZZ k4;have hx4:=ZZ (ak hx3.out k4);clear k4;have hz:=HZ.out _ hx4.out;obtain⟨z0,z1,z2,f0,f1,f2⟩:=ai hz;have Hz:=ZZ hz;clear hz)
   |(have _q:=hx2
     go_at_call 149
     refine(up_c _ _ _ _ H2.out S2.out (Nat.le_trans HJ.out (by decide))).mono ?_;clear _q;rintro e w2 ⟨vv,rfl,h3,k3⟩;obtain⟨P2,p2,c2,rfl⟩:=h3.form';have H3:=ZZ h3;clear h3;have e3:=ZZ k3;have hx3:=ZZ (ak hx2.out k3);clear k3)
   |(have _q:=hx1
     go_at_call 100
     refine(under_c _ _ _ (Hx.out.mono (ak hww.out hx1.out))).mono ?_;clear _q;rintro e w1 ⟨vv,rfl,h2,k2⟩;obtain⟨P1,p1,c1,rfl⟩:=h2.form';have H2:=ZZ h2;clear h2;have e2:=ZZ k2;have hx2:=ZZ (ak hx1.out k2);clear k2))
 go_wp2_with fail;refine bodyPost_ret (v:=.agg #[.bool b3,.slice P3 p3 c3,.slice Q3 q3 d3]) (by simp [results,Tryz.f114];go_simp) rfl ?_
 refine⟨_,rfl,?_,al (ak hww.out hx4.out) Hsz.out _ _ _⟩
 have hr:rat b1 x.num.natAbs (x.den*2 ^ j)=shQ x (-(j:Int)):=by
  unfold shQ;rw [if_pos (by have:=HP.out;omega),Hbx.out,Int.natAbs_neg];rfl
 rw [←hr];exact H4.out.put3 Hz.out
theorem shifted_q (M:Nat) (hM:M≤1099511627776) (z:Int) (hz:z.natAbs≤1099511627776) (vx:Value) (x:Rat) (w:World) (hx:Nm w vx x) (bx:Bq M x):Calls Tryz.prog 114 #[vx,.int .i64 z] w fun e w'=>∃v,e=.returned v∧Nm w' v (shQ x z)∧Ext w w':=by
 rcases(show z<0∨0≤z by omega) with h|h
 ·obtain⟨k,rfl⟩:∃k:Nat,z = -(k:Int):=⟨z.natAbs,by omega⟩
  exact shifted_down M hM k (by omega) (by omega) vx x w hx bx
 ·obtain⟨k,rfl⟩:∃k:Nat,z=(k:Int):=⟨z.toNat,by omega⟩
  exact shifted_up M hM k (by omega) vx x w hx bx
end Go.Proofs.YtoefieefcndlkaaGreatDoor
set_option linter.unusedVariables false
set_option maxRecDepth 100000
set_option maxHeartbeats 64000000
namespace Go.Proofs.YtoefieefcndlkaaGreatDoor
open Go.RowKit
theorem cells3_new (w:World) (a b c:Value) (T:TypeId):∀(j:Nat) (u:Value),[a,b,c][j]?=some u→(w.alloc (.cells #[a,b,c] T)).cell? ((⟨w.heap.size,0,none⟩:Addr).add j)=some u:=by
 intro j u hu;have h:=heap_alloc_new w (.cells #[a,b,c] T)
 have hc:(w.alloc (.cells #[a,b,c] T)).cell? ⟨w.heap.size,j,none⟩=some u:=by
  rw [cell_of_row _ _ j _ _ _ h];simpa using hu
 by_cases h0:j=0
 ·subst h0;exact hc
 ·simpa [Addr.add,h0] using hc
theorem OwnR.lt {w:World} {B:Nat} {v:Value} {n:Nat} {xs:List Value} (h:OwnR w B v n xs):∀k,v.ownBlock=some k→B≤k∧k<w.heap.size:=by
 intro k hk;obtain⟨-,h2⟩:=h
 rcases h2 with ⟨rfl,-⟩|⟨g,cap,cur,rfl,hb,hh,-⟩
 ·cases hk
 ·obtain rfl:g=k:=Option.some.inj hk
  exact⟨hb,lt_of_block hh⟩
theorem OwnR.mono {w w':World} {B:Nat} {v:Value} {n:Nat} {xs:List Value} (h:OwnR w B v n xs) (k:Ext w w'):OwnR w' B v n xs:=by
 obtain⟨h1,h2⟩:=h;refine⟨h1,?_⟩
 rcases h2 with h2|⟨g,cap,cur,e,hb,hh,hr⟩
 ·exact .inl h2
 ·exact .inr ⟨g,cap,cur,e,hb,(k.block _ (lt_of_block hh)).trans hh,hr⟩
theorem OwnP.mono {w w':World} {B:Nat} {v:Value} {l:List Rat} (h:OwnP w B v l) (k:Ext w w'):OwnP w' B v l:=by
 obtain⟨xs,h1,h2⟩:=h;refine⟨xs,h1.mono k,fun i q hq=>?_⟩;obtain⟨s,A,n,ca,C,m,cb,x0,x1,x2,hn⟩:=h2 i q hq;exact⟨s,A,n,ca,C,m,cb,x0,x1,x2,hn.mono k⟩
theorem ext_grown1 {w0 w w':World} {u:Value} {n:Nat} {xs:List Value} (h:Ext w0 w) (hown:OwnR w w0.heap.size u n xs) (hg:w.grownBy w' u.ownBlock):Ext w0 w':=
 Below.grown h hg h.size (fun k hk=>(hown.lt k hk).1)
def scaleF (p:List Rat) (x:Rat):List Rat:=trimF (p.map (·*x))
theorem scale_q (M:Nat) (hM:M≤1099511627776) (v vx:Value) (l:List Rat) (x:Rat) (hl:l.length≤1000000) (w:World) (h:Pl w v l) (hx:Nm w vx x) (hb:∀q ∈ l,Bq M q) (bx:Bq M x):Calls Tryz.prog 95 #[v,vx] w fun e w'=>∃v',e=.returned v'∧PlN w.heap.size w' v' (scaleF l x)∧Ext w w':=by
 obtain⟨s1,A1,k1,ca1,B1,l1,cb1,rfl⟩:=hx.form2;obtain⟨A,cap,rfl,hc,hA⟩:=id h;obtain⟨n,hn⟩:∃n,l.length=n:=⟨_,rfl⟩;rw [hn];have HNL:=ZZ hn;have HP:=ZZ h;have HX:=ZZ hx;have HL:=ZZ hl;have HB:=ZZ hb;have BX:=ZZ bx;have HM:=ZZ hM;have HA:=ZZ hA;have E0:=ZZ (ab w (.cells #[.bool s1,.slice A1 k1 ca1,.slice B1 l1 cb1] 52));have RX:=ZZ (heap_alloc_new w (.cells #[.bool s1,.slice A1 k1 ca1,.slice B1 l1 cb1] 52));clear h hx hl hb bx hM hA hc hn
 go_enter Tryz.func95,Tryz.ntmps95
 go_upto_region 1 with (fail)
 generalize World.alloc w (.cells #[.bool s1,.slice A1 k1 ca1,.slice B1 l1 cb1] _)=W1 at *;generalize hgx:w.heap.size=gx at *;have HG:=ZZ hgx;clear hgx;go_wp2_with fail
 go_loopg [10,5] n (fun k i u wr=>∃j,Hid (j+k=n)∧i=.int .i64 (j:Int)∧Hid (OwnP wr W1.heap.size u ((l.take j).map (·*x)))∧Hid (Ext W1 wr))
 case atStart=>exact⟨0,ZZ (Nat.zero_add _),rfl,ZZ (OwnP.nil _ _),ZZ (ae _)⟩
 case round=>
  obtain⟨j,HJ,rfl,HO,HE⟩:=hrel;rename World=>WR;rename Value=>u
  rcases Nat.eq_zero_or_pos gk with hz|hz
  ·subst hz
   obtain rfl:j=n:=HJ.out;have q1:decide ((j:Int)<(j:Int))=false:=decide_eq_false (Int.lt_irrefl _);go_wp2_with fail;refine(trim_q _ ((l.take j).map (·*x)) (by have:=HL.out;simp;omega) _ HO.out.pl).mono ?_;rintro e w' ⟨v',rfl,hn,kk⟩;rw [show trimF ((l.take j).map (·*x))=scaleF l x by rw [List.take_of_length_le (Nat.le_of_eq HNL.out)];rfl] at hn;have HN:=ZZ hn;have HK2:=ZZ kk;clear hn kk;go_wp2_with fail;go_ret;refine⟨_,rfl,?_,ak E0.out (ak HE.out HK2.out)⟩
   rcases HN.out with hn|⟨g,hg,hn⟩
   ·exact .inl hn
   ·refine .inr ⟨g,Nat.le_trans ?_ hg,hn⟩
    exact(ak E0.out HE.out).size
  ·have hjn:j<n:=by have:=HJ.out;omega
   have q1:decide ((j:Int)<(n:Int))=true:=decide_eq_true (by omega);have q4:(j:Int)<(n:Int):=by omega
   have q5:(0:Int)≤(j:Int):=by omega
   rcases HA.out with ⟨-,h5⟩|⟨b,o,rfl,ht⟩
   ·have:=HNL.out;rw [h5] at this;simp at this;omega
   obtain⟨q,hq⟩:∃q,l[j]?=some q:=⟨l[j]'(by rw [HNL.out];exact hjn),List.getElem?_eq_getElem _⟩;have EW:=ZZ (ak E0.out HE.out);obtain⟨s2,A2,k2,ca2,B2,l2,cb2,c0,c1,c2,hcn⟩:=(ht j q hq).mono EW.out;have HQ:=ZZ hq;have HCN:=ZZ hcn;have HZ:=ZZ hz;have HJN:=ZZ hjn;have BQ:=ZZ (HB.out q (List.mem_of_getElem? hq));obtain⟨x0,x1,x2,-⟩:=ai (((ak HE.out (ab WR (.cells #[.bool s2,.slice A2 k2 ca2,.slice B2 l2 cb2] 52))).block _ (lt_of_block RX.out)).trans RX.out);clear hq hcn ht hz hjn;go_wp2_with fail;refine(mul_q M HM.out _ _ q x _ (HCN.out.mono (ab _ _)) (HX.out.mono (ak EW.out (ab _ _))) BQ.out BX.out).mono ?_;rintro e w5 ⟨v5,rfl,h5,k5⟩;obtain⟨s5,A5,k5',ca5,B5,l5,cb5,rfl⟩:=h5.form2;have E6:=ZZ (show Ext WR (w5.alloc (.cells #[.bool s5,.slice A5 k5' ca5,.slice B5 l5 cb5] 52)) from ak (ab WR (.cells #[.bool s2,.slice A2 k2 ca2,.slice B2 l2 cb2] 52)) (ak k5 (ab _ _)));have H5:=ZZ (h5.mono (ab w5 (.cells #[.bool s5,.slice A5 k5' ca5,.slice B5 l5 cb5] 52)));obtain⟨xs,hown,hxs⟩:=HO.out.mono E6.out;have HXS:=ZZ hxs;have HOWN:=ZZ hown;have LT:=ZZ (show ((l.take j).map (·*x)).length=j by have h1:=HNL.out;have h2:=HJN.out;simp;omega);have C3:=ZZ (cells3_new w5 (.bool s5) (.slice A5 k5' ca5) (.slice B5 l5 cb5) 52);clear c0 c1 c2 x0 x1 x2 h5 k5 hown hxs
   go_wp2_with (at_builtin;refine wpList_append1 rfl _ _ rfl W1.heap.size _ ((l.take j).map (·*x)).length xs rfl HOWN.out ⟨w5.heap.size,0,none⟩ _ [.bool s5,.slice A5 k5' ca5,.slice B5 l5 cb5] rfl rfl C3.out (by intro u hu;simp at hu;rcases hu with rfl|rfl|rfl <;> rfl) (by intro u hu z he;subst he;simp at hu) (by have h1:=LT.out;have h2:=HL.out;have h3:=HNL.out;have h4:=HJN.out;omega) (ak HE.out E6.out).size ?_;intro v' w7 hown7 hgrow)
   have HP7:=ZZ (OwnP.snoc HOWN.out HXS.out H5.out hgrow hown7);have E7:=ZZ (ext_grown1 (ak HE.out E6.out) HOWN.out hgrow);clear hown7 hgrow;go_wp2_with fail
   go_roundg (gk - 1)
   case measure=>have:=HZ.out;omega
   case rel=>
    refine⟨j+1,ZZ (by have:=HJ.out;have:=HZ.out;omega),by have h1:=HL.out;have h2:=HNL.out;have h3:=HJN.out;rw [IntWalk.wrap64_in _ ⟨by omega,by omega⟩];rfl,ZZ ?_,ZZ E7.out⟩;rw [List.take_add_one,HQ.out,Option.toList_some,List.map_append];exact HP7.out
end Go.Proofs.YtoefieefcndlkaaGreatDoor
set_option linter.unusedVariables false
set_option maxRecDepth 100000
set_option maxHeartbeats 64000000
namespace Go.Proofs.YtoefieefcndlkaaGreatDoor
open Go.RowKit
theorem row_set {W:World} {g j:Nat} {cs:Array Value} {T:TypeId} (h:W.heap[g]?=some (.cells cs T (0,0))) (v:Value):(W.setCell ⟨g,j,none⟩ v).heap[g]?=some (.cells (cs.setIfInBounds j v) T (0,0)):=by
 simp only [World.setCell,Array.getElem?_modify,h]
 simp
theorem frozen_row {W:World} {g:Nat} {cs:Array Value} {T:TypeId} (h:W.heap[g]?=some (.cells cs T (0,0))) (j:Nat):W.frozen? ⟨g,j,none⟩=false:=by
 simp [World.frozen?,h]
def put3at (W:World) (g j:Nat) (a b c:Value):World:=((W.setCell ⟨g,j,none⟩ a).setCell ⟨g,j+1,none⟩ b).setCell ⟨g,j+2,none⟩ c
theorem put3at_row {W:World} {g j:Nat} {cs:Array Value} {T:TypeId} (h:W.heap[g]?=some (.cells cs T (0,0))) (a b c:Value):(put3at W g j a b c).heap[g]?=some (.cells (((cs.setIfInBounds j a).setIfInBounds (j+1) b).setIfInBounds (j+2) c) T (0,0)):=
 row_set (row_set (row_set h a) b) c
theorem put3at_cell {W:World} {g j:Nat} {cs:Array Value} {T:TypeId} (h:W.heap[g]?=some (.cells cs T (0,0))) (a b c:Value) (b' i:Nat) (hne:b'≠g∨(i≠j∧i≠j+1∧i≠j+2)):(put3at W g j a b c).cell? ⟨b',i,none⟩=W.cell? ⟨b',i,none⟩:=by
 by_cases hb:b'=g
 ·subst hb
  obtain⟨h1,h2,h3⟩:=hne.resolve_left (fun e=>e rfl);rw [cell_of_row _ b' i _ _ _ (put3at_row h a b c),cell_of_row _ b' i _ _ _ h];rw [Array.getElem?_setIfInBounds_ne (Ne.symm h3),Array.getElem?_setIfInBounds_ne (Ne.symm h2),Array.getElem?_setIfInBounds_ne (Ne.symm h1)]
 ·refine World.cell?_of_block ?_
  unfold put3at;rw [Below.heap_setCell _ _ _ _ hb,Below.heap_setCell _ _ _ _ hb,Below.heap_setCell _ _ _ _ hb]
theorem put3at_new {W:World} {g j:Nat} {cs:Array Value} {T:TypeId} (h:W.heap[g]?=some (.cells cs T (0,0))) (hj:j+2<cs.size) (a b c:Value):(put3at W g j a b c).cell? ⟨g,j,none⟩=some a∧(put3at W g j a b c).cell? ⟨g,j+1,none⟩=some b∧(put3at W g j a b c).cell? ⟨g,j+2,none⟩=some c:=by
 have hr:=put3at_row h a b c (j:=j);refine⟨?_,?_,?_⟩
 ·rw [cell_of_row _ g j _ _ _ hr,Array.getElem?_setIfInBounds_ne (by omega),Array.getElem?_setIfInBounds_ne (by omega),Array.getElem?_setIfInBounds_self_of_lt (by omega)]
 ·rw [cell_of_row _ g (j+1) _ _ _ hr,Array.getElem?_setIfInBounds_ne (by omega),Array.getElem?_setIfInBounds_self_of_lt (by simp;omega)]
 ·rw [cell_of_row _ g (j+2) _ _ _ hr,Array.getElem?_setIfInBounds_self_of_lt (by simp;omega)]
theorem Nm.put3at {W:World} {v u:Value} {q:Rat} {g i:Nat} {l:List Rat} (h:Nm W v q) (ho:PlO W g u l) (hi:i<l.length) (a b c:Value):Nm (put3at W g (i*3) a b c) v q:=by
 obtain⟨cap,cur,-,hh,-⟩:=id ho;refine h.keepC ho.noU fun b' j hne=>put3at_cell hh a b c b' j ?_
 rcases hne with hne|hne
 ·exact .inl hne
 ·exact .inr (by omega)
theorem PlO.set {W:World} {g i:Nat} {v:Value} {l:List Rat} {q:Rat} {s:Bool} {A C:Option Addr} {k ca m cb:Nat} (h:PlO W g v l) (hi:i<l.length) (hq:Nm W (.agg #[.bool s,.slice A k ca,.slice C m cb]) q):PlO (put3at W g (i*3) (.bool s) (.slice A k ca) (.slice C m cb)) g v (l.set i q):=by
 obtain⟨cap,cur,e,hh,h1,h2,h3,h4⟩:=id h;have hsz:i*3+2<cur.size:=by rw [h3];omega
 refine⟨cap,_,by rw [List.length_set];exact e,put3at_row hh _ _ _,by rw [List.length_set];exact h1,h2,by simpa using h3,fun j r hr=>?_⟩
 by_cases hj:i=j
 ·subst hj
  rw [List.getElem?_set_self hi] at hr;obtain rfl:q=r:=Option.some.inj hr;obtain⟨n0,n1,n2⟩:=put3at_new hh hsz (.bool s) (.slice A k ca) (.slice C m cb);exact⟨s,A,k,ca,C,m,cb,n0,n1,n2,hq.put3at h hi _ _ _⟩
 ·rw [List.getElem?_set_ne hj] at hr
  obtain⟨s1,A1,k1,ca1,C1,m1,cb1,c0,c1,c2,hn⟩:=h4 j r hr;exact⟨s1,A1,k1,ca1,C1,m1,cb1,by rw [put3at_cell hh _ _ _ g _ (.inr (by omega))];exact c0,by rw [put3at_cell hh _ _ _ g _ (.inr (by omega))];exact c1,by rw [put3at_cell hh _ _ _ g _ (.inr (by omega))];exact c2,hn.put3at h hi _ _ _⟩
end Go.Proofs.YtoefieefcndlkaaGreatDoor
set_option linter.unusedVariables false
set_option maxRecDepth 100000
set_option maxHeartbeats 64000000
namespace Go.Proofs.YtoefieefcndlkaaGreatDoor
open Go.RowKit Go.Lib
def natOf (l:List UInt8):Nat:=l.foldl (fun n c=>10*n+(c.toNat - 48)) 0
def isDig (c:UInt8):Bool:=decide (48≤c.toNat) && decide (c.toNat≤57)
theorem isDig_iff (c:UInt8):isDig c=true↔48≤c.toNat∧c.toNat≤57:=by
 unfold isDig;simp
theorem natOf_nil:natOf []=0:=rfl
theorem natOf_snoc (l:List UInt8) (c:UInt8):natOf (l ++ [c])=10*natOf l+(c.toNat - 48):=by
 simp [natOf,List.foldl_append]
theorem natOf_acc (l:List UInt8) (a:Nat):l.foldl (fun n c=>10*n+(c.toNat - 48)) a=a*10 ^ l.length+natOf l:=by
 induction l generalizing a with
 | nil=>simp [natOf]
 | cons c l ih=>
  unfold natOf
  simp only [List.foldl_cons,List.length_cons]
  rw [ih,ih (10*0+(c.toNat - 48)),Nat.pow_succ,Nat.mul_zero,Nat.zero_add,Nat.add_mul]
  have:10*a*10 ^ l.length=a*(10 ^ l.length*10):=by rw [Nat.mul_comm 10 a,Nat.mul_assoc,Nat.mul_comm 10]
  omega
theorem natOf_append (l m:List UInt8):natOf (l ++ m)=natOf l*10 ^ m.length+natOf m:=by
 unfold natOf;rw [List.foldl_append];exact natOf_acc m _
theorem natOf_cons (c:UInt8) (l:List UInt8):natOf (c :: l)=(c.toNat - 48)*10 ^ l.length+natOf l:=by
 have:=natOf_append [c] l
 rw [List.singleton_append] at this;rw [this];simp [natOf]
theorem natOf_lt (l:List UInt8) (h:∀c ∈ l,isDig c=true):natOf l<10 ^ l.length:=by
 induction l with
 | nil=>simp [natOf]
 | cons c l ih=>
  rw [natOf_cons,List.length_cons,Nat.pow_succ];have h1:=ih fun d hd=>h d (List.mem_cons_of_mem _ hd);have h2:=(isDig_iff c).1 (h c (List.mem_cons_self ..));have h3:(c.toNat - 48)*10 ^ l.length≤9*10 ^ l.length:=Nat.mul_le_mul_right _ (by omega);omega
theorem dchar (d:Nat) (h:d<10):(UInt8.ofNat (48+d)).toNat=48+d:=by
 rw [UInt8.toNat_ofNat'];exact Nat.mod_eq_of_lt (by omega)
theorem chard (c:UInt8) (h:isDig c=true):UInt8.ofNat (48+(c.toNat - 48))=c:=by
 have h2:=(isDig_iff c).1 h
 apply UInt8.toNat_inj.1
 rw [dchar _ (by omega)];omega
theorem natOf_dec (n:Nat):natOf (decDigits n)=n:=by
 induction n using Nat.strongRecOn with
 | _ n ih=>
  by_cases h:n<10
  ·rw [decDigits,dif_pos h];(simp [natOf];omega)
  ·rw [decDigits,dif_neg h,natOf_snoc,ih _ (by omega),dchar _ (by omega)];omega
theorem dec_ne_nil (n:Nat):decDigits n≠[]:=by
 rw [decDigits];split <;> simp
theorem dec_isDig (n:Nat):∀c ∈ decDigits n,isDig c=true:=by
 induction n using Nat.strongRecOn with
 | _ n ih=>
  intro c hc
  by_cases h:n<10
  ·rw [decDigits,dif_pos h] at hc
   simp only [List.mem_singleton] at hc
   rw [hc,isDig_iff,dchar _ h];omega
  ·rw [decDigits,dif_neg h] at hc
   rcases List.mem_append.1 hc with hc|hc
   ·exact ih _ (by omega) c hc
   ·simp only [List.mem_singleton] at hc
    rw [hc,isDig_iff,dchar _ (by omega)];omega
theorem natOf_pos (l:List UInt8) (h:∀c ∈ l,isDig c=true) (h0:l≠[]) (h1:l.head?≠some 48):0<natOf l:=by
 cases l with
 | nil=>exact absurd rfl h0
 | cons c l=>
  rw [natOf_cons];have h2:=(isDig_iff c).1 (h c (List.mem_cons_self ..))
  have h3:c.toNat≠48:=fun e=>h1 (by
   rw [List.head?_cons];congr 1;apply UInt8.toNat_inj.1;rw [e];rfl)
  have h4:0<10 ^ l.length:=Nat.pow_pos (by decide);have h5:1*10 ^ l.length≤(c.toNat - 48)*10 ^ l.length:=Nat.mul_le_mul_right _ (by omega);omega
theorem dec_natOf (l:List UInt8) (h:∀c ∈ l,isDig c=true) (h0:l≠[]) (h1:l.head?≠some 48∨l.length=1):decDigits (natOf l)=l:=by
 obtain⟨k,hk⟩:∃k,l.length=k:=⟨_,rfl⟩
 induction k using Nat.strongRecOn generalizing l with
 | _ k ih=>
  have hs:=List.dropLast_concat_getLast h0;obtain⟨m,hm⟩:∃m,l.dropLast=m:=⟨_,rfl⟩;obtain⟨c,hc⟩:∃c,l.getLast h0=c:=⟨_,rfl⟩;rw [hm,hc] at hs;subst hs;have hcd:=h c (by simp);have h2:=(isDig_iff c).1 hcd;rw [natOf_snoc]
  by_cases hmn:m=[]
  ·subst hmn
   rw [natOf_nil,decDigits,dif_pos (by omega)]
   simp only [Nat.mul_zero,Nat.zero_add,List.nil_append]
   rw [chard c hcd]
  ·have h3:(m ++ [c]).head?=m.head?:=by
    cases m with
    | nil=>exact absurd rfl hmn
    | cons a m=>rfl
   have hml:0<m.length:=List.length_pos_iff.2 hmn
   have h4:m.head?≠some 48:=by
    rcases h1 with h1|h1
    ·rw [←h3];exact h1
    ·simp at h1;exact absurd h1 hmn
   have hd:∀x ∈ m,isDig x=true:=fun x hx=>h x (by simp [hx]);have h5:=natOf_pos m hd hmn h4;rw [decDigits,dif_neg (by omega)];have e1:(10*natOf m+(c.toNat - 48)) / 10=natOf m:=by omega
   have e2:(10*natOf m+(c.toNat - 48)) % 10=c.toNat - 48:=by omega
   rw [e1,e2,chard c hcd];have hk':m.length<k:=by simp at hk;omega
   rw [ih m.length hk' m hd hmn (Or.inl h4) rfl]
theorem dec_head (n:Nat) (h:n≠0):(decDigits n).head?≠some 48:=by
 induction n using Nat.strongRecOn with
 | _ n ih=>
  by_cases hl:n<10
  ·rw [decDigits,dif_pos hl,List.head?_cons]
   intro e
   have:=congrArg UInt8.toNat (Option.some.inj e)
   rw [dchar _ hl] at this;have h9:(48:UInt8).toNat=48:=rfl;omega
  ·rw [decDigits,dif_neg hl]
   have h3:=dec_ne_nil (n / 10)
   cases hq:decDigits (n / 10) with
   | nil=>exact absurd hq h3
   | cons a m=>
    have:=ih (n / 10) (by omega) (by omega)
    rw [hq] at this;exact this
theorem dec_zero:decDigits 0=[48]:=by rw [decDigits,dif_pos (by decide)];rfl
def padTo (k r:Nat):List UInt8:=List.replicate (k - (decDigits r).length) 48 ++ decDigits r
theorem dec_length_le (k r:Nat) (hk:0<k) (hr:r<10 ^ k):(decDigits r).length≤k:=by
 rcases Nat.lt_or_ge k (decDigits r).length with h|h
 ·exfalso
  have hr0:r≠0:=by
   intro e;subst e;rw [dec_zero] at h;simp at h;omega
  have hd:=dec_isDig r;have hh:=dec_head r hr0;have hn:=natOf_dec r
  cases hq:decDigits r with
  | nil=>exact dec_ne_nil r hq
  | cons c m=>
   rw [hq] at h hd hh hn;rw [natOf_cons] at hn;have h2:=(isDig_iff c).1 (hd c (List.mem_cons_self ..))
   have h3:c.toNat≠48:=fun e=>hh (by
    rw [List.head?_cons];congr 1;apply UInt8.toNat_inj.1;rw [e];rfl)
   have h5:1*10 ^ m.length≤(c.toNat - 48)*10 ^ m.length:=Nat.mul_le_mul_right _ (by omega);have h6:10 ^ k≤10 ^ m.length:=Nat.pow_le_pow_right (by decide) (by simp at h;omega);omega
 ·exact h
theorem padTo_length (k r:Nat) (hk:0<k) (hr:r<10 ^ k):(padTo k r).length=k:=by
 have:=dec_length_le k r hk hr
 simp [padTo];omega
theorem natOf_zeros (k:Nat) (l:List UInt8):natOf (List.replicate k 48 ++ l)=natOf l:=by
 induction k with
 | zero=>simp
 | succ k ih=>rw [List.replicate_succ,List.cons_append,natOf_cons,ih];simp
theorem padTo_isDig (k r:Nat):∀c ∈ padTo k r,isDig c=true:=by
 intro c hc
 rcases List.mem_append.1 hc with h|h
 ·rw [List.mem_replicate] at h
  rw [h.2];rfl
 ·exact dec_isDig r c h
theorem dec_split (k q r:Nat) (hk:0<k) (hq:0<q) (hr:r<10 ^ k):decDigits (q*10 ^ k+r)=decDigits q ++ padTo k r:=by
 have h1:natOf (decDigits q ++ padTo k r)=q*10 ^ k+r:=by
  rw [natOf_append,natOf_dec,padTo_length k r hk hr];unfold padTo;rw [natOf_zeros,natOf_dec]
 rw [←h1];have hn:=dec_ne_nil q;refine dec_natOf _ ?_ (by simp [hn]) (Or.inl ?_)
 ·intro c hc
  rcases List.mem_append.1 hc with h|h
  ·exact dec_isDig q c h
  ·exact padTo_isDig k r c h
 ·cases hd:decDigits q with
  | nil=>exact absurd hd hn
  | cons a m=>
   have:=dec_head q (by omega)
   rw [hd] at this;exact this
def txt (q:Rat):List UInt8:=(if q.num<0 then [45] else []) ++ decDigits q.num.natAbs ++ (if q.den=1 then [] else 47 :: decDigits q.den)
end Go.Proofs.YtoefieefcndlkaaGreatDoor
set_option linter.unusedVariables false
set_option maxRecDepth 100000
set_option maxHeartbeats 64000000
namespace Go.Proofs.YtoefieefcndlkaaGreatDoor
open Go.RowKit
def cs10:List UInt8:=[48,49,50,51,52,53,54,55,56,57]
theorem cs10_dig (c:UInt8):cs10.contains c=isDig c:=by
 rw [Bool.eq_iff_iff,isDig_iff]
 constructor
 ·intro h
  simp [cs10] at h
  rcases h with rfl|rfl|rfl|rfl|rfl|rfl|rfl|rfl|rfl|rfl <;> decide
 ·intro h
  have:∀k:Nat,48≤k→k≤57→cs10.contains (UInt8.ofNat k)=true:=by
   intro k h1 h2
   have:k=48∨k=49∨k=50∨k=51∨k=52∨k=53∨k=54∨k=55∨k=56∨k=57:=by omega
   rcases this with rfl|rfl|rfl|rfl|rfl|rfl|rfl|rfl|rfl|rfl <;> decide
  have h3:=this c.toNat h.1 h.2
  rwa [UInt8.ofNat_toNat] at h3
theorem dropWhile_empty (p:UInt8→Bool) (l:List UInt8):(l.dropWhile p).isEmpty=l.all p:=by
 induction l with
 | nil=>rfl
 | cons a l ih=>
  rw [List.dropWhile_cons]
  split
  ·rename_i h;rw [ih,List.all_cons,h,Bool.true_and]
  ·rename_i h;simp [h]
theorem all_dropWhile (p:UInt8→Bool) (l:List UInt8):(l.dropWhile p).all p=l.all p:=by
 induction l with
 | nil=>rfl
 | cons a l ih=>
  rw [List.dropWhile_cons]
  split
  ·rename_i h;rw [ih,List.all_cons,h,Bool.true_and]
  ·rfl
theorem trim_digits (l:List UInt8):(Lib.trimS l cs10).isEmpty=l.all isDig:=by
 unfold Lib.trimS Lib.trimLeftS Lib.trimRightS;rw [dropWhile_empty,List.all_reverse,all_dropWhile,List.all_reverse]
 congr 1
 funext c
 exact cs10_dig c
def digB (l:List UInt8):Bool:=!l.isEmpty && l.all isDig
def plainB (l:List UInt8):Bool:=digB l && (l == [48] || l.head? != some 48)
theorem plain_cons {c:UInt8} {t:List UInt8} (h:digB (c :: t)=true):(c == 48 && t.isEmpty || ((c.toNat:Int) != 48))=plainB (c :: t):=by
 unfold plainB;rw [h,Bool.true_and]
 congr 1
 ·cases t <;> simp
 ·rw [Bool.eq_iff_iff]
  simp only [bne_iff_ne,List.head?_cons,ne_eq,Option.some.injEq]
  constructor
  ·intro h e;exact h (by rw [e];rfl)
  ·intro h e;exact h (UInt8.toNat_inj.1 (by have:(48:UInt8).toNat=48:=rfl;omega))
theorem digits_c (l:List UInt8) (hs:l.length≤9223372036854775807) (w:World):Calls Tryz.prog 123 #[.string ⟨l.toArray⟩] w fun e w'=>e=.returned (.bool (digB l))∧Ext w w':=by
 have h:=Any.strings_Trim_laid Tryz.lays160 (by kernel_rfl) ⟨l.toArray⟩ ⟨#[48,49,50,51,52,53,54,55,56,57]⟩ w hs (by decide) (ascii_of_all (by decide));have h2:=trim_digits l;unfold cs10 at h2
 change Calls Tryz.prog _ _ _ (fun e w'=>e=.returned (.string ⟨(Lib.trimS l [48,49,50,51,52,53,54,55,56,57]).toArray⟩)∧Below w.heap.size w w') at h
 generalize Lib.trimS l [48,49,50,51,52,53,54,55,56,57]=t at h h2;have H:=ZZ h;have H2:=ZZ h2;clear h h2
 rcases Decidable.em (l=[]) with h0|h0
 ·subst h0
  go_enter Tryz.func123,Tryz.ntmps123
  go_wp2_with fail;go_ret
  exact⟨rfl,ae _⟩
 ·go_enter Tryz.func123,Tryz.ntmps123
  go_wp2_with fail;refine H.out.mono ?_
  rintro e w1 ⟨rfl,h1⟩;have H1:=ZZ h1;clear h1;go_wp2_with fail;go_ret;refine⟨?_,H1.out⟩;unfold digB;rw [←H2.out]
  rfl
theorem plain_c (l:List UInt8) (hs:l.length≤9223372036854775807) (w:World):Calls Tryz.prog 72 #[.string ⟨l.toArray⟩] w fun e w'=>e=.returned (.bool (plainB l))∧Ext w w':=by
 have hd:=digits_c l hs w
 rcases hb:digB l with _|_
 ·rw [hb] at hd
  have H:=ZZ hd;have HB:=ZZ hb;clear hd hb
  go_enter Tryz.func72,Tryz.ntmps72
  go_wp2_with fail;refine H.out.mono ?_
  rintro e w1 ⟨rfl,h1⟩;have H1:=ZZ h1;clear h1;go_wp2_with fail;go_ret;exact⟨by unfold plainB;rw [HB.out];rfl,H1.out⟩
 ·cases l with
  | nil=>simp [digB] at hb
  | cons c t=>
   rw [hb] at hd;have H:=ZZ hd;have HB:=ZZ hb;clear hd hb
   rcases Decidable.em (c=48) with hc|hc
   ·subst hc
    rcases Decidable.em (t=[]) with ht|ht
    ·subst ht
     go_enter Tryz.func72,Tryz.ntmps72
     go_wp2_with fail;refine H.out.mono ?_
     rintro e w1 ⟨rfl,h1⟩;have H1:=ZZ h1;clear h1;go_wp2_with fail;go_ret;exact⟨by rw [←plain_cons HB.out];rfl,H1.out⟩
    ·go_enter Tryz.func72,Tryz.ntmps72
     go_wp2_with fail;refine H.out.mono ?_
     rintro e w1 ⟨rfl,h1⟩;have H1:=ZZ h1;clear h1;go_wp2_with fail;go_ret;exact⟨by rw [←plain_cons HB.out];rfl,H1.out⟩
   ·go_enter Tryz.func72,Tryz.ntmps72
    go_wp2_with fail;refine H.out.mono ?_
    rintro e w1 ⟨rfl,h1⟩;have H1:=ZZ h1;clear h1;go_wp2_with fail;go_ret;exact⟨by rw [←plain_cons HB.out];rfl,H1.out⟩
end Go.Proofs.YtoefieefcndlkaaGreatDoor
