/- Numbers: powers. Printed by gen_nl.py. The polynomial t. The reference's texts: the sign, the parts, rows of digits; one. Texts of numbers. Printed by gen_te.py. Texts: engineering texts, shown. Small laws: the error of Parse, rows of three cells. -/
import Derived.Test.YtoefieefcndlkaaGreatDoorGQp
import Derived.Deep.LoopGhost
import Derived.Test.YtoefieefcndlkaaGreatDoorGRi
import Derived.Test.YtoefieefcndlkaaGreatDoorGTg
import Derived.Test.YtoefieefcndlkaaGreatDoorGTd
import Derived.Test.YtoefieefcndlkaaGreatDoorGRb
import Derived.Lib.Hide
import Derived.Test.YtoefieefcndlkaaGreatDoorGTi
import Derived.Test.YtoefieefcndlkaaGreatDoorGNg
import Derived.Deep.RegionHeld3
import Derived.Deep.DeepCutAuto
import Derived.Deep.QuietTactic
import Derived.BigQuiet
set_option linter.unusedVariables false
set_option maxRecDepth 100000
set_option maxHeartbeats 64000000
namespace Go.Proofs.YtoefieefcndlkaaGreatDoor
open Go.RowKit
end Go.Proofs.YtoefieefcndlkaaGreatDoor
set_option linter.unusedVariables false
set_option maxRecDepth 100000
set_option maxHeartbeats 64000000
namespace Go.Proofs.YtoefieefcndlkaaGreatDoor
open Go.RowKit
theorem pl_two {w:World} {s1 s2:Bool} {A1 B1 A2 B2:Option Addr} {k1 ca1 l1 cb1 k2 ca2 l2 cb2:Nat} {x y:Rat} (h1:Nm w (.agg #[.bool s1,.slice A1 k1 ca1,.slice B1 l1 cb1]) x) (h2:Nm w (.agg #[.bool s2,.slice A2 k2 ca2,.slice B2 l2 cb2]) y):Pl (w.alloc (.cells #[.bool s1,.slice A1 k1 ca1,.slice B1 l1 cb1,.bool s2,.slice A2 k2 ca2,.slice B2 l2 cb2] 52)) (.slice (some ⟨w.heap.size,0,none⟩) 2 2) [x,y]:=by
 have hr:=heap_alloc_new w (.cells #[.bool s1,.slice A1 k1 ca1,.slice B1 l1 cb1,.bool s2,.slice A2 k2 ca2,.slice B2 l2 cb2] 52);have e:=ab w (.cells #[.bool s1,.slice A1 k1 ca1,.slice B1 l1 cb1,.bool s2,.slice A2 k2 ca2,.slice B2 l2 cb2] 52);refine⟨_,2,rfl,Nat.le_refl _,.inr ⟨_,0,rfl,fun i q hq=>?_⟩⟩
 match i,hq with
 | 0,hq=>obtain rfl:x=q:=Option.some.inj hq;exact⟨_,_,_,_,_,_,_,by rw [cell_of_row _ _ _ _ _ _ hr];rfl,by rw [cell_of_row _ _ _ _ _ _ hr];rfl,by rw [cell_of_row _ _ _ _ _ _ hr];rfl,h1.mono e⟩
 | 1,hq=>obtain rfl:y=q:=Option.some.inj hq;exact⟨_,_,_,_,_,_,_,by rw [cell_of_row _ _ _ _ _ _ hr];rfl,by rw [cell_of_row _ _ _ _ _ _ hr];rfl,by rw [cell_of_row _ _ _ _ _ _ hr];rfl,h2.mono e⟩
theorem line_p (w:World):Calls Tryz.prog 55 #[] w fun e w'=>∃v',e=.returned v'∧Pl w' v' [0,1]∧Ext w w':=by
 go_enter Tryz.func55,Tryz.ntmps55
 go_wp2_with fail;refine(int_q 0 (by decide) (by decide) _).mono ?_
 rintro e w3 ⟨v3,rfl,h3,k3⟩;obtain⟨s1,A1,k1,ca1,B1,l1,cb1,rfl⟩:=h3.form2;have H3:=ZZ (show Nm w3 (.agg #[.bool s1,.slice A1 k1 ca1,.slice B1 l1 cb1]) 0 from h3);have K3:=ZZ k3;clear h3 k3;go_wp2_with fail;refine(int_q 1 (by decide) (by decide) _).mono ?_;rintro e w4 ⟨v4,rfl,h4,k4⟩;obtain⟨s2,A2,k2,ca2,B2,l2,cb2,rfl⟩:=h4.form2;have H4:=ZZ (show Nm w4 (.agg #[.bool s2,.slice A2 k2 ca2,.slice B2 l2 cb2]) 1 from h4);have K4:=ZZ k4;clear h4 k4;go_wp2_with fail;go_ret;exact⟨_,rfl,pl_two (H3.out.mono K4.out) H4.out,ak K3.out (ak K4.out (ab _ _))⟩
end Go.Proofs.YtoefieefcndlkaaGreatDoor
set_option linter.unusedVariables false
set_option maxRecDepth 100000
set_option maxHeartbeats 64000000
namespace Go.Proofs.YtoefieefcndlkaaGreatDoor
open Go.RowKit
theorem dr_one:dr 1=[1]:=by
 unfold dr;rw [dig_pos B30_two (by omega),B30_eq,show 1 / 1073741824=0 from rfl,dig_zero]
theorem one_f (w:World):Calls Tryz.prog 81 #[] w fun e w'=>∃v,e=.returned v∧Wr w' v 1∧Ext w w'∧Fr w.heap.size v:=by
 go_enter Tryz.func81,Tryz.ntmps81
 go_wp2
 go_ret;refine⟨_,rfl,?_,ab _ _,fun b hb=>by cases hb;exact Nat.le_refl _⟩
 refine⟨some ⟨w.heap.size,0,none⟩,1,by rw [dr_one];rfl,by rw [dr_one];simp,?_⟩;rw [dr_one];exact cl_new w [i64n 1] 2
theorem ris1_iff (n:Nat):n=1↔(dr n).length=1∧(dr n).getD 0 0=1:=by
 constructor
 ·rintro rfl;rw [dr_one];simp
 ·rintro⟨h1,h2⟩
  have e:=num_dr n
  match h:dr n,h1,h2 with
  | [d],_,h2=>rw [h] at e;simp at h2 e;omega
theorem is1_r (va:Value) (n:Nat) (b:Bool) (hb:decide (n=1)=b) (w:World) (ha:Wr w va n):Calls Tryz.prog 82 #[va] w fun e w'=>e=.returned (.bool b)∧w=w':=by
 obtain⟨A,ca,rfl,hca,hA⟩:=ha;have hi:=ris1_iff n
 by_cases hl:(dr n).length=1
 ·obtain⟨ba,oa,rfl,hc⟩:=hA.i (by omega)
  have h0:w.cell? ⟨ba,oa,none⟩=some (.int .i64 (((dr n).getD 0 0:Nat):Int)):=by have h1:=hc 0 (by omega);rwa [Nat.add_zero] at h1
  clear hc hA
  have Hi:Hid (decide ((dr n).getD 0 0=1)=b):=by
   rw [←hb];show decide _=decide _;simp only [hi,hl,true_and]
  clear hi;generalize (dr n).getD 0 0=x at *;have hlt:((((dr n).length:Nat):Int) == 1)=true:=by simp;omega
  have hp:(0:Int)<((dr n).length:Nat):=by omega
  have hp':0<(dr n).length:=by omega
  generalize (dr n).length=k at *
  by_cases hx:x=1
  ·have ht:((x:Int) == 1)=true:=by simp;omega
   have Hb:Hid (b=true):=by have:=Hi.out;rw [←this];exact decide_eq_true hx
   clear hx hb hl
   go_enter Tryz.func82,Tryz.ntmps82
   go_wp2
   go_ret;rw [Hb.out]
   exact⟨rfl,rfl⟩
  ·have ht:((x:Int) == 1)=false:=by simp;omega
   have Hb:Hid (b=false):=by have:=Hi.out;rw [←this];exact decide_eq_false hx
   clear hx hb hl
   go_enter Tryz.func82,Tryz.ntmps82
   go_wp2
   go_ret;rw [Hb.out]
   exact⟨rfl,rfl⟩
 ·have hlt:((((dr n).length:Nat):Int) == 1)=false:=by simp;omega
  have Hb:Hid (b=false):=by rw [←hb];exact decide_eq_false (fun h=>hl (hi.1 h).1)
  clear hl hb hi;generalize (dr n).length=k at *
  go_enter Tryz.func82,Tryz.ntmps82
  go_wp2
  go_ret;rw [Hb.out]
  exact⟨rfl,rfl⟩
def sgnB (b:Bool):Int:=if b=true then -1 else 1
theorem minus_no {c:UInt8} {l:List UInt8} (h:c≠45):minusB (c :: l)=false∧restB (c :: l)=c :: l:=by
 have hne:¬(45:UInt8)=c:=fun e=>h e.symm;unfold minusB restB Lib.trimPrefix Lib.hasPrefix
 simp [List.isPrefixOf,hne]
theorem minus_yes (l:List UInt8):minusB (45 :: l)=true∧restB (45 :: l)=l:=by
 unfold minusB restB Lib.trimPrefix Lib.hasPrefix
 simp [List.isPrefixOf]
theorem signed_r (l:List UInt8) (hs:l.length≤9223372036854775807) (w:World):Calls Tryz.prog 76 #[.string ⟨l.toArray⟩] w fun e w'=>e=.returned (.tuple #[.string ⟨(restB l).toArray⟩,.int .i64 (sgnB (minusB l))])∧w'=w:=by
 rcases l with _|⟨c,l⟩
 ·have h1:minusB []=false:=rfl
  have h2:restB []=[]:=rfl;rw [h1,h2]
  go_enter Tryz.func76,Tryz.ntmps76
  go_wp2_with fail;refine bodyPost_ret (v:=.tuple #[.string ⟨#[]⟩,.int .i64 1]) (by simp [results,Tryz.f76]) rfl ?_
  exact⟨rfl,rfl⟩
 ·have hsz:(⟨(c :: l).toArray⟩:ByteArray).size=l.length+1:=by simp [ByteArray.size]
  have hz1:0<(⟨(c :: l).toArray⟩:ByteArray).size:=by rw [hsz];omega
  have hge:(⟨(c :: l).toArray⟩:ByteArray)[0]'hz1=c:=by rfl
  have hp:(0:Int)<((l.length+1:Nat):Int):=by omega
  have hx:(⟨(c :: l).toArray⟩:ByteArray).extract 1 (l.length+1)=⟨l.toArray⟩:=by apply ByteArray.ext;simp
  by_cases h:c=45
  ·subst h
   have ht:((((⟨(45 :: l).toArray⟩:ByteArray)[0]'hz1).toNat:Int) == 45)=true:=by rw [hge];rfl
   have HM:=ZZ (minus_yes l);clear hge
   go_enter Tryz.func76,Tryz.ntmps76
   go_wp2_with fail;refine bodyPost_ret (v:=.tuple #[.string ⟨l.toArray⟩,.int .i64 (-1)]) (by simp [results,Tryz.f76]) rfl ?_
   exact⟨by rw [HM.out.1,HM.out.2];rfl,rfl⟩
  ·have ht:((((⟨(c :: l).toArray⟩:ByteArray)[0]'hz1).toNat:Int) == 45)=false:=by
    rw [hge,beq_eq_false_iff_ne];intro e
    apply h
    apply UInt8.toNat_inj.1
    have e45:(45:UInt8).toNat=45:=rfl;omega
   have HM:=ZZ (minus_no (l:=l) h);clear hge h
   go_enter Tryz.func76,Tryz.ntmps76
   go_wp2_with fail;refine bodyPost_ret (v:=.tuple #[.string ⟨(c :: l).toArray⟩,.int .i64 1]) (by simp [results,Tryz.f76]) rfl ?_
   exact⟨by rw [HM.out.1,HM.out.2];rfl,rfl⟩
end Go.Proofs.YtoefieefcndlkaaGreatDoor
set_option linter.unusedVariables false
set_option maxRecDepth 100000
set_option maxHeartbeats 64000000
namespace Go.Proofs.YtoefieefcndlkaaGreatDoor
open Go.RowKit
theorem dec_len {n M:Nat} (h:n<2 ^ M):(Lib.decDigits n).length≤M+1:=dec_length_le (M+1) n (by omega) (by
 have h7:2 ^ M≤10 ^ M:=Nat.pow_le_pow_left (by decide) _;have h8:10 ^ M≤10 ^ (M+1):=Nat.pow_le_pow_right (by decide) (by omega)
 omega)
theorem text_pos_one (M:Nat) (hM:M≤1099511627776) (vx:Value) (x:Rat) (w:World) (hx:Nm w vx x) (bx:Bq M x) (htab:Tens w) (hb:decide (x.num<0)=false) (hd:x.den=1):Calls Tryz.prog 27 #[vx] w fun e w'=>e=.returned (.string ⟨(txt x).toArray⟩)∧Ext w w':=by
 have HT:=ZZ htab;have HD:=ZZ hd;have HB:=ZZ hb;have N1:=ZZ bx.1;have N2:=ZZ bx.2;have l1:=dec_len bx.1;have l2:=dec_len bx.2;have HM:=ZZ hM;obtain⟨A,k,ca,B,l,cb,rfl,hxn,hxd,hkx,hlx⟩:=hx.form;rw [hb] at hx ⊢;have Hx:=ZZ hx;have Hxn:=ZZ hxn;obtain rfl:l=0:=hlx.2 hd;obtain⟨dn_,hdn⟩:∃q,q=Lib.decDigits x.num.natAbs:=⟨_,rfl⟩;obtain⟨dd_,hdd⟩:∃q,q=Lib.decDigits x.den:=⟨_,rfl⟩;have HDN:=ZZ hdn;have HDD:=ZZ hdd;rw [←hdn] at l1;rw [←hdd] at l2
 have HR:=ZZ (show (⟨dn_.toArray⟩:ByteArray)=⟨(txt x).toArray⟩ by
  unfold txt;have hb':¬ x.num<0:=by simpa using hb
  rw [if_neg hb',if_pos hd,←hdn]
  simp)
 clear hx hxn hxd hkx hlx htab hd hb bx hM hdn hdd l1 l2;obtain⟨hS,-,hw1,-⟩:=setup1 w (.bool false) (.slice A k ca) (.slice B 0 cb);have HS:=ZZ hS;have hww:=ZZ hw1;clear hS hw1
 go_enter Tryz.func27,Tryz.ntmps27
 go_wp2_with fail;generalize World.alloc w (.cells #[.bool false,.slice A k ca,.slice B 0 cb] _)=W2 at *
 generalize w.heap.size=g0 at *;refine(row_c M HM.out _ _ _ (Hxn.out.mono hww.out) N1.out (HT.out.mono hww.out)).mono ?_;rintro e w1 ⟨rfl,k1⟩;rw [←HDN.out];obtain⟨r0,r1,r2⟩:=HS.out _ k1;have K1:=ZZ k1;clear k1;go_wp2_with fail;go_ret;exact⟨by rw [←HR.out];rfl,ak hww.out K1.out⟩
theorem text_pos_more (M:Nat) (hM:M≤1099511627776) (vx:Value) (x:Rat) (w:World) (hx:Nm w vx x) (bx:Bq M x) (htab:Tens w) (hb:decide (x.num<0)=false) (hd:¬ x.den=1):Calls Tryz.prog 27 #[vx] w fun e w'=>e=.returned (.string ⟨(txt x).toArray⟩)∧Ext w w':=by
 have HT:=ZZ htab;have HD:=ZZ hd;have HB:=ZZ hb;have N1:=ZZ bx.1;have N2:=ZZ bx.2;have l1:=dec_len bx.1;have l2:=dec_len bx.2;have HM:=ZZ hM;obtain⟨A,k,ca,B,l,cb,rfl,hxn,hxd,hkx,hlx⟩:=hx.form;rw [hb] at hx ⊢;have Hx:=ZZ hx;have Hxn:=ZZ hxn
 have hxd':Wd w (.slice B l cb) x.den:=by
  unfold dn at hxd
  rwa [if_neg hd] at hxd
 have Hxd:=ZZ hxd';have hl0:¬ l=0:=fun h=>hd (hlx.1 h);have t5:(0:Int)<(l:Int):=by omega
 clear hxd' hl0;obtain⟨dn_,hdn⟩:∃q,q=Lib.decDigits x.num.natAbs:=⟨_,rfl⟩;obtain⟨dd_,hdd⟩:∃q,q=Lib.decDigits x.den:=⟨_,rfl⟩;have HDN:=ZZ hdn;have HDD:=ZZ hdd;rw [←hdn] at l1;rw [←hdd] at l2;have c2:1+dd_.length≤9223372036854775807:=by omega
 have e2:(⟨#[47]⟩:ByteArray) ++ ⟨dd_.toArray⟩=⟨(47 :: dd_).toArray⟩:=str_append [47] dd_;have c3:dn_.length+(47 :: dd_).length≤9223372036854775807:=by have q:(47 :: dd_).length=dd_.length+1:=rfl;have q2:(45 :: dn_).length=dn_.length+1:=rfl;omega
 have c4:dn_.length+(dd_.length+1)≤9223372036854775807:=by have q2:(45 :: dn_).length=dn_.length+1:=rfl;omega
 have c5:dn_.length+(dd_.length+1)≤9223372036854775807:=by omega
 have e3:(⟨dn_.toArray⟩:ByteArray) ++ ⟨(47 :: dd_).toArray⟩=⟨(dn_ ++ 47 :: dd_).toArray⟩:=str_append _ _
 have HR:=ZZ (show (⟨(dn_ ++ 47 :: dd_).toArray⟩:ByteArray)=⟨(txt x).toArray⟩ by
  unfold txt;have hb':¬ x.num<0:=by simpa using hb
  rw [if_neg hb',if_neg hd,←hdn,←hdd]
  simp)
 clear hx hxn hxd hkx hlx htab hd hb bx hM hdn hdd l1 l2;obtain⟨hS,-,hw1,-⟩:=setup1 w (.bool false) (.slice A k ca) (.slice B l cb);have HS:=ZZ hS;have hww:=ZZ hw1;clear hS hw1
 go_enter Tryz.func27,Tryz.ntmps27
 go_wp2_with fail;generalize World.alloc w (.cells #[.bool false,.slice A k ca,.slice B l cb] _)=W2 at *
 generalize w.heap.size=g0 at *;refine(row_c M HM.out _ _ _ (Hxn.out.mono hww.out) N1.out (HT.out.mono hww.out)).mono ?_;rintro e w1 ⟨rfl,k1⟩;rw [←HDN.out];obtain⟨r0,r1,r2⟩:=HS.out _ k1;have K1:=ZZ k1;clear k1;go_wp2_with fail;refine(row_c M HM.out _ _ _ (Hxd.out.mono (ak hww.out K1.out)) N2.out (HT.out.mono (ak hww.out K1.out))).mono ?_;rintro e w2 ⟨rfl,k2⟩;rw [←HDD.out];have K2:=ZZ (ak K1.out k2);clear k2;go_wp2_with fail;go_ret;exact⟨by rw [←HR.out];rfl,ak hww.out K2.out⟩
theorem text_neg_one (M:Nat) (hM:M≤1099511627776) (vx:Value) (x:Rat) (w:World) (hx:Nm w vx x) (bx:Bq M x) (htab:Tens w) (hb:decide (x.num<0)=true) (hd:x.den=1):Calls Tryz.prog 27 #[vx] w fun e w'=>e=.returned (.string ⟨(txt x).toArray⟩)∧Ext w w':=by
 have HT:=ZZ htab;have HD:=ZZ hd;have HB:=ZZ hb;have N1:=ZZ bx.1;have N2:=ZZ bx.2;have l1:=dec_len bx.1;have l2:=dec_len bx.2;have HM:=ZZ hM;obtain⟨A,k,ca,B,l,cb,rfl,hxn,hxd,hkx,hlx⟩:=hx.form;rw [hb] at hx ⊢;have Hx:=ZZ hx;have Hxn:=ZZ hxn;obtain rfl:l=0:=hlx.2 hd;obtain⟨dn_,hdn⟩:∃q,q=Lib.decDigits x.num.natAbs:=⟨_,rfl⟩;obtain⟨dd_,hdd⟩:∃q,q=Lib.decDigits x.den:=⟨_,rfl⟩;have HDN:=ZZ hdn;have HDD:=ZZ hdd;rw [←hdn] at l1;rw [←hdd] at l2;have c1:1+dn_.length≤9223372036854775807:=by omega
 have e1:(⟨#[45]⟩:ByteArray) ++ ⟨dn_.toArray⟩=⟨(45 :: dn_).toArray⟩:=str_append [45] dn_
 have HR:=ZZ (show (⟨(45 :: dn_).toArray⟩:ByteArray)=⟨(txt x).toArray⟩ by
  unfold txt;have hb':x.num<0:=by simpa using hb
  rw [if_pos hb',if_pos hd,←hdn]
  simp)
 clear hx hxn hxd hkx hlx htab hd hb bx hM hdn hdd l1 l2;obtain⟨hS,-,hw1,-⟩:=setup1 w (.bool true) (.slice A k ca) (.slice B 0 cb);have HS:=ZZ hS;have hww:=ZZ hw1;clear hS hw1
 go_enter Tryz.func27,Tryz.ntmps27
 go_wp2_with fail;generalize World.alloc w (.cells #[.bool true,.slice A k ca,.slice B 0 cb] _)=W2 at *
 generalize w.heap.size=g0 at *;refine(row_c M HM.out _ _ _ (Hxn.out.mono hww.out) N1.out (HT.out.mono hww.out)).mono ?_;rintro e w1 ⟨rfl,k1⟩;rw [←HDN.out];obtain⟨r0,r1,r2⟩:=HS.out _ k1;have K1:=ZZ k1;clear k1;go_wp2_with fail;go_ret;exact⟨by rw [←HR.out];rfl,ak hww.out K1.out⟩
theorem text_neg_more (M:Nat) (hM:M≤1099511627776) (vx:Value) (x:Rat) (w:World) (hx:Nm w vx x) (bx:Bq M x) (htab:Tens w) (hb:decide (x.num<0)=true) (hd:¬ x.den=1):Calls Tryz.prog 27 #[vx] w fun e w'=>e=.returned (.string ⟨(txt x).toArray⟩)∧Ext w w':=by
 have HT:=ZZ htab;have HD:=ZZ hd;have HB:=ZZ hb;have N1:=ZZ bx.1;have N2:=ZZ bx.2;have l1:=dec_len bx.1;have l2:=dec_len bx.2;have HM:=ZZ hM;obtain⟨A,k,ca,B,l,cb,rfl,hxn,hxd,hkx,hlx⟩:=hx.form;rw [hb] at hx ⊢;have Hx:=ZZ hx;have Hxn:=ZZ hxn
 have hxd':Wd w (.slice B l cb) x.den:=by
  unfold dn at hxd
  rwa [if_neg hd] at hxd
 have Hxd:=ZZ hxd';have hl0:¬ l=0:=fun h=>hd (hlx.1 h);have t5:(0:Int)<(l:Int):=by omega
 clear hxd' hl0;obtain⟨dn_,hdn⟩:∃q,q=Lib.decDigits x.num.natAbs:=⟨_,rfl⟩;obtain⟨dd_,hdd⟩:∃q,q=Lib.decDigits x.den:=⟨_,rfl⟩;have HDN:=ZZ hdn;have HDD:=ZZ hdd;rw [←hdn] at l1;rw [←hdd] at l2;have c1:1+dn_.length≤9223372036854775807:=by omega
 have e1:(⟨#[45]⟩:ByteArray) ++ ⟨dn_.toArray⟩=⟨(45 :: dn_).toArray⟩:=str_append [45] dn_;have c2:1+dd_.length≤9223372036854775807:=by omega
 have e2:(⟨#[47]⟩:ByteArray) ++ ⟨dd_.toArray⟩=⟨(47 :: dd_).toArray⟩:=str_append [47] dd_;have c3:(45 :: dn_).length+(47 :: dd_).length≤9223372036854775807:=by have q:(47 :: dd_).length=dd_.length+1:=rfl;have q2:(45 :: dn_).length=dn_.length+1:=rfl;omega
 have c4:(45 :: dn_).length+(dd_.length+1)≤9223372036854775807:=by have q2:(45 :: dn_).length=dn_.length+1:=rfl;omega
 have c5:dn_.length+1+(dd_.length+1)≤9223372036854775807:=by omega
 have e3:(⟨(45 :: dn_).toArray⟩:ByteArray) ++ ⟨(47 :: dd_).toArray⟩=⟨((45 :: dn_) ++ 47 :: dd_).toArray⟩:=str_append _ _
 have HR:=ZZ (show (⟨((45 :: dn_) ++ 47 :: dd_).toArray⟩:ByteArray)=⟨(txt x).toArray⟩ by
  unfold txt;have hb':x.num<0:=by simpa using hb
  rw [if_pos hb',if_neg hd,←hdn,←hdd]
  simp)
 clear hx hxn hxd hkx hlx htab hd hb bx hM hdn hdd l1 l2;obtain⟨hS,-,hw1,-⟩:=setup1 w (.bool true) (.slice A k ca) (.slice B l cb);have HS:=ZZ hS;have hww:=ZZ hw1;clear hS hw1
 go_enter Tryz.func27,Tryz.ntmps27
 go_wp2_with fail;generalize World.alloc w (.cells #[.bool true,.slice A k ca,.slice B l cb] _)=W2 at *
 generalize w.heap.size=g0 at *;refine(row_c M HM.out _ _ _ (Hxn.out.mono hww.out) N1.out (HT.out.mono hww.out)).mono ?_;rintro e w1 ⟨rfl,k1⟩;rw [←HDN.out];obtain⟨r0,r1,r2⟩:=HS.out _ k1;have K1:=ZZ k1;clear k1;go_wp2_with fail;refine(row_c M HM.out _ _ _ (Hxd.out.mono (ak hww.out K1.out)) N2.out (HT.out.mono (ak hww.out K1.out))).mono ?_;rintro e w2 ⟨rfl,k2⟩;rw [←HDD.out];have K2:=ZZ (ak K1.out k2);clear k2;go_wp2_with fail;go_ret;exact⟨by rw [←HR.out];rfl,ak hww.out K2.out⟩
theorem text_c (M:Nat) (hM:M≤1099511627776) (vx:Value) (x:Rat) (w:World) (hx:Nm w vx x) (bx:Bq M x) (htab:Tens w):Calls Tryz.prog 27 #[vx] w fun e w'=>e=.returned (.string ⟨(txt x).toArray⟩)∧Ext w w':=by
 rcases hb:decide (x.num<0) with _|_
 ·by_cases hd:x.den=1
  ·exact text_pos_one M hM vx x w hx bx htab hb hd
  ·exact text_pos_more M hM vx x w hx bx htab hb hd
 ·by_cases hd:x.den=1
  ·exact text_neg_one M hM vx x w hx bx htab hb hd
  ·exact text_neg_more M hM vx x w hx bx htab hb hd
end Go.Proofs.YtoefieefcndlkaaGreatDoor
set_option linter.unusedVariables false
set_option maxRecDepth 100000
set_option maxHeartbeats 64000000
namespace Go.Proofs.YtoefieefcndlkaaGreatDoor
open Go.RowKit
theorem Nm.len {w:World} {b:Bool} {A B:Option Addr} {k c l d:Nat} {q:Rat} (h:Nm w (.agg #[.bool b,.slice A k c,.slice B l d]) q):(l=0↔q.den=1)∧Wd w (.slice A k c) q.num.natAbs:=by
 obtain⟨A',k',c',B',l',d',e,h1,h2,-,h4⟩:=h.form
 simp only [Value.agg.injEq,Array.mk.injEq,List.cons.injEq,Value.bool.injEq,Value.slice.injEq,and_true] at e
 obtain⟨-,⟨rfl,rfl,rfl⟩,⟨rfl,rfl,rfl⟩⟩:=e;exact⟨h4,h1⟩
end Go.Proofs.YtoefieefcndlkaaGreatDoor
set_option linter.unusedVariables false
set_option maxRecDepth 100000
set_option maxHeartbeats 64000000
namespace Go.Proofs.YtoefieefcndlkaaGreatDoor
open Go.RowKit
end Go.Proofs.YtoefieefcndlkaaGreatDoor
