/- Texts of numbers. Printed by gen_te.py. The reference's texts: parts and rows of digits. -/
import Derived.Test.YtjamgccgoapbeaaGreatDoorGYd
import Derived.Test.YtjamgccgoapbeaaGreatDoorGRd
import Derived.Test.YtjamgccgoapbeaaGreatDoorGYa
import Derived.Lib.Hide
import Derived.Test.YtjamgccgoapbeaaGreatDoorGYg
set_option linter.unusedVariables false
set_option maxRecDepth 100000
set_option maxHeartbeats 64000000
namespace Go.Proofs.YtjamgccgoapbeaaGreatDoor
open Go.RowKit
theorem dec_len {n M:Nat} (h:n<2 ^ M):(Lib.decDigits n).length≤M+1:=dec_length_le (M+1) n (by omega) (by
 have h7:2 ^ M≤10 ^ M:=Nat.pow_le_pow_left (by decide) _;have h8:10 ^ M≤10 ^ (M+1):=Nat.pow_le_pow_right (by decide) (by omega)
 omega)
theorem text_pos_one (M:Nat) (hM:M≤1099511627776) (vx:Value) (x:Rat) (w:World) (hx:Nm w vx x) (bx:Bq M x) (htab:Tens w) (hb:decide (x.num<0)=false) (hd:x.den=1):Calls Tryz.prog 13 #[vx] w fun e w'=>e=.returned (.string ⟨(txt x).toArray⟩)∧Ext w w':=by
 have HT:=ZZ htab;have HD:=ZZ hd;have HB:=ZZ hb;have N1:=ZZ bx.1;have N2:=ZZ bx.2;have l1:=dec_len bx.1;have l2:=dec_len bx.2;have HM:=ZZ hM;obtain⟨A,k,ca,B,l,cb,rfl,hxn,hxd,hkx,hlx⟩:=hx.form;rw [hb] at hx ⊢;have Hx:=ZZ hx;have Hxn:=ZZ hxn;obtain rfl:l=0:=hlx.2 hd;obtain⟨dn_,hdn⟩:∃q,q=Lib.decDigits x.num.natAbs:=⟨_,rfl⟩;obtain⟨dd_,hdd⟩:∃q,q=Lib.decDigits x.den:=⟨_,rfl⟩;have HDN:=ZZ hdn;have HDD:=ZZ hdd;rw [←hdn] at l1;rw [←hdd] at l2
 have HR:=ZZ (show (⟨dn_.toArray⟩:ByteArray)=⟨(txt x).toArray⟩ by
  unfold txt;have hb':¬ x.num<0:=by simpa using hb
  rw [if_neg hb',if_pos hd,←hdn]
  simp)
 clear hx hxn hxd hkx hlx htab hd hb bx hM hdn hdd l1 l2;obtain⟨hS,-,hw1,-⟩:=setup1 w (.bool false) (.slice A k ca) (.slice B 0 cb);have HS:=ZZ hS;have hww:=ZZ hw1;clear hS hw1
 go_enter Tryz.func13,Tryz.ntmps13
 go_wp2_with fail;generalize World.alloc w (.cells #[.bool false,.slice A k ca,.slice B 0 cb] _)=W2 at *
 generalize w.heap.size=g0 at *;refine(row_c M HM.out _ _ _ (Hxn.out.mono hww.out) N1.out (HT.out.mono hww.out)).mono ?_;rintro e w1 ⟨rfl,k1⟩;rw [←HDN.out];obtain⟨r0,r1,r2⟩:=HS.out _ k1;have K1:=ZZ k1;clear k1;go_wp2_with fail;go_ret;exact⟨by rw [←HR.out];rfl,am hww.out K1.out⟩
theorem text_pos_more (M:Nat) (hM:M≤1099511627776) (vx:Value) (x:Rat) (w:World) (hx:Nm w vx x) (bx:Bq M x) (htab:Tens w) (hb:decide (x.num<0)=false) (hd:¬ x.den=1):Calls Tryz.prog 13 #[vx] w fun e w'=>e=.returned (.string ⟨(txt x).toArray⟩)∧Ext w w':=by
 have HT:=ZZ htab;have HD:=ZZ hd;have HB:=ZZ hb;have N1:=ZZ bx.1;have N2:=ZZ bx.2;have l1:=dec_len bx.1;have l2:=dec_len bx.2;have HM:=ZZ hM;obtain⟨A,k,ca,B,l,cb,rfl,hxn,hxd,hkx,hlx⟩:=hx.form;rw [hb] at hx ⊢;have Hx:=ZZ hx;have Hxn:=ZZ hxn
 have hxd':Wd w (.slice B l cb) x.den:=by
  unfold dn at hxd
  rwa [if_neg hd] at hxd
 have Hxd:=ZZ hxd';have hl0:¬ l=0:=fun h=>hd (hlx.1 h);have t5:(0:Int)<(l:Int):=by omega
 clear hxd' hl0;obtain⟨dn_,hdn⟩:∃q,q=Lib.decDigits x.num.natAbs:=⟨_,rfl⟩;obtain⟨dd_,hdd⟩:∃q,q=Lib.decDigits x.den:=⟨_,rfl⟩;have HDN:=ZZ hdn;have HDD:=ZZ hdd;rw [←hdn] at l1;rw [←hdd] at l2;have c2:1+dd_.length≤9223372036854775807:=by omega
 have e2:(⟨#[47]⟩:ByteArray) ++ ⟨dd_.toArray⟩=⟨(47 :: dd_).toArray⟩:=str_append [47] dd_;have c3:dn_.length+(47 :: dd_).length≤9223372036854775807:=by have q:(47 :: dd_).length=dd_.length+1:=rfl;have q2:(45 :: dn_).length=dn_.length+1:=rfl;omega
 have c4:dn_.length+(dd_.length+1)≤9223372036854775807:=by have q2:(45 :: dn_).length=dn_.length+1:=rfl;omega
 have c5:dn_.length+(dd_.length+1)≤9223372036854775807:=by omega
 have e3:(⟨dn_.toArray⟩:ByteArray) ++ ⟨(47 :: dd_).toArray⟩=⟨(dn_ ++ 47 :: dd_).toArray⟩:=str_append _ _
 have HR:=ZZ (show (⟨(dn_ ++ 47 :: dd_).toArray⟩:ByteArray)=⟨(txt x).toArray⟩ by
  unfold txt;have hb':¬ x.num<0:=by simpa using hb
  rw [if_neg hb',if_neg hd,←hdn,←hdd]
  simp)
 clear hx hxn hxd hkx hlx htab hd hb bx hM hdn hdd l1 l2;obtain⟨hS,-,hw1,-⟩:=setup1 w (.bool false) (.slice A k ca) (.slice B l cb);have HS:=ZZ hS;have hww:=ZZ hw1;clear hS hw1
 go_enter Tryz.func13,Tryz.ntmps13
 go_wp2_with fail;generalize World.alloc w (.cells #[.bool false,.slice A k ca,.slice B l cb] _)=W2 at *
 generalize w.heap.size=g0 at *;refine(row_c M HM.out _ _ _ (Hxn.out.mono hww.out) N1.out (HT.out.mono hww.out)).mono ?_;rintro e w1 ⟨rfl,k1⟩;rw [←HDN.out];obtain⟨r0,r1,r2⟩:=HS.out _ k1;have K1:=ZZ k1;clear k1;go_wp2_with fail;refine(row_c M HM.out _ _ _ (Hxd.out.mono (am hww.out K1.out)) N2.out (HT.out.mono (am hww.out K1.out))).mono ?_;rintro e w2 ⟨rfl,k2⟩;rw [←HDD.out];have K2:=ZZ (am K1.out k2);clear k2;go_wp2_with fail;go_ret;exact⟨by rw [←HR.out];rfl,am hww.out K2.out⟩
theorem text_neg_one (M:Nat) (hM:M≤1099511627776) (vx:Value) (x:Rat) (w:World) (hx:Nm w vx x) (bx:Bq M x) (htab:Tens w) (hb:decide (x.num<0)=true) (hd:x.den=1):Calls Tryz.prog 13 #[vx] w fun e w'=>e=.returned (.string ⟨(txt x).toArray⟩)∧Ext w w':=by
 have HT:=ZZ htab;have HD:=ZZ hd;have HB:=ZZ hb;have N1:=ZZ bx.1;have N2:=ZZ bx.2;have l1:=dec_len bx.1;have l2:=dec_len bx.2;have HM:=ZZ hM;obtain⟨A,k,ca,B,l,cb,rfl,hxn,hxd,hkx,hlx⟩:=hx.form;rw [hb] at hx ⊢;have Hx:=ZZ hx;have Hxn:=ZZ hxn;obtain rfl:l=0:=hlx.2 hd;obtain⟨dn_,hdn⟩:∃q,q=Lib.decDigits x.num.natAbs:=⟨_,rfl⟩;obtain⟨dd_,hdd⟩:∃q,q=Lib.decDigits x.den:=⟨_,rfl⟩;have HDN:=ZZ hdn;have HDD:=ZZ hdd;rw [←hdn] at l1;rw [←hdd] at l2;have c1:1+dn_.length≤9223372036854775807:=by omega
 have e1:(⟨#[45]⟩:ByteArray) ++ ⟨dn_.toArray⟩=⟨(45 :: dn_).toArray⟩:=str_append [45] dn_
 have HR:=ZZ (show (⟨(45 :: dn_).toArray⟩:ByteArray)=⟨(txt x).toArray⟩ by
  unfold txt;have hb':x.num<0:=by simpa using hb
  rw [if_pos hb',if_pos hd,←hdn]
  simp)
 clear hx hxn hxd hkx hlx htab hd hb bx hM hdn hdd l1 l2;obtain⟨hS,-,hw1,-⟩:=setup1 w (.bool true) (.slice A k ca) (.slice B 0 cb);have HS:=ZZ hS;have hww:=ZZ hw1;clear hS hw1
 go_enter Tryz.func13,Tryz.ntmps13
 go_wp2_with fail;generalize World.alloc w (.cells #[.bool true,.slice A k ca,.slice B 0 cb] _)=W2 at *
 generalize w.heap.size=g0 at *;refine(row_c M HM.out _ _ _ (Hxn.out.mono hww.out) N1.out (HT.out.mono hww.out)).mono ?_;rintro e w1 ⟨rfl,k1⟩;rw [←HDN.out];obtain⟨r0,r1,r2⟩:=HS.out _ k1;have K1:=ZZ k1;clear k1;go_wp2_with fail;go_ret;exact⟨by rw [←HR.out];rfl,am hww.out K1.out⟩
theorem text_neg_more (M:Nat) (hM:M≤1099511627776) (vx:Value) (x:Rat) (w:World) (hx:Nm w vx x) (bx:Bq M x) (htab:Tens w) (hb:decide (x.num<0)=true) (hd:¬ x.den=1):Calls Tryz.prog 13 #[vx] w fun e w'=>e=.returned (.string ⟨(txt x).toArray⟩)∧Ext w w':=by
 have HT:=ZZ htab;have HD:=ZZ hd;have HB:=ZZ hb;have N1:=ZZ bx.1;have N2:=ZZ bx.2;have l1:=dec_len bx.1;have l2:=dec_len bx.2;have HM:=ZZ hM;obtain⟨A,k,ca,B,l,cb,rfl,hxn,hxd,hkx,hlx⟩:=hx.form;rw [hb] at hx ⊢;have Hx:=ZZ hx;have Hxn:=ZZ hxn
 have hxd':Wd w (.slice B l cb) x.den:=by
  unfold dn at hxd
  rwa [if_neg hd] at hxd
 have Hxd:=ZZ hxd';have hl0:¬ l=0:=fun h=>hd (hlx.1 h);have t5:(0:Int)<(l:Int):=by omega
 clear hxd' hl0;obtain⟨dn_,hdn⟩:∃q,q=Lib.decDigits x.num.natAbs:=⟨_,rfl⟩;obtain⟨dd_,hdd⟩:∃q,q=Lib.decDigits x.den:=⟨_,rfl⟩;have HDN:=ZZ hdn;have HDD:=ZZ hdd;rw [←hdn] at l1;rw [←hdd] at l2;have c1:1+dn_.length≤9223372036854775807:=by omega
 have e1:(⟨#[45]⟩:ByteArray) ++ ⟨dn_.toArray⟩=⟨(45 :: dn_).toArray⟩:=str_append [45] dn_;have c2:1+dd_.length≤9223372036854775807:=by omega
 have e2:(⟨#[47]⟩:ByteArray) ++ ⟨dd_.toArray⟩=⟨(47 :: dd_).toArray⟩:=str_append [47] dd_;have c3:(45 :: dn_).length+(47 :: dd_).length≤9223372036854775807:=by have q:(47 :: dd_).length=dd_.length+1:=rfl;have q2:(45 :: dn_).length=dn_.length+1:=rfl;omega
 have c4:(45 :: dn_).length+(dd_.length+1)≤9223372036854775807:=by have q2:(45 :: dn_).length=dn_.length+1:=rfl;omega
 have c5:dn_.length+1+(dd_.length+1)≤9223372036854775807:=by omega
 have e3:(⟨(45 :: dn_).toArray⟩:ByteArray) ++ ⟨(47 :: dd_).toArray⟩=⟨((45 :: dn_) ++ 47 :: dd_).toArray⟩:=str_append _ _
 have HR:=ZZ (show (⟨((45 :: dn_) ++ 47 :: dd_).toArray⟩:ByteArray)=⟨(txt x).toArray⟩ by
  unfold txt;have hb':x.num<0:=by simpa using hb
  rw [if_pos hb',if_neg hd,←hdn,←hdd]
  simp)
 clear hx hxn hxd hkx hlx htab hd hb bx hM hdn hdd l1 l2;obtain⟨hS,-,hw1,-⟩:=setup1 w (.bool true) (.slice A k ca) (.slice B l cb);have HS:=ZZ hS;have hww:=ZZ hw1;clear hS hw1
 go_enter Tryz.func13,Tryz.ntmps13
 go_wp2_with fail;generalize World.alloc w (.cells #[.bool true,.slice A k ca,.slice B l cb] _)=W2 at *
 generalize w.heap.size=g0 at *;refine(row_c M HM.out _ _ _ (Hxn.out.mono hww.out) N1.out (HT.out.mono hww.out)).mono ?_;rintro e w1 ⟨rfl,k1⟩;rw [←HDN.out];obtain⟨r0,r1,r2⟩:=HS.out _ k1;have K1:=ZZ k1;clear k1;go_wp2_with fail;refine(row_c M HM.out _ _ _ (Hxd.out.mono (am hww.out K1.out)) N2.out (HT.out.mono (am hww.out K1.out))).mono ?_;rintro e w2 ⟨rfl,k2⟩;rw [←HDD.out];have K2:=ZZ (am K1.out k2);clear k2;go_wp2_with fail;go_ret;exact⟨by rw [←HR.out];rfl,am hww.out K2.out⟩
theorem text_c (M:Nat) (hM:M≤1099511627776) (vx:Value) (x:Rat) (w:World) (hx:Nm w vx x) (bx:Bq M x) (htab:Tens w):Calls Tryz.prog 13 #[vx] w fun e w'=>e=.returned (.string ⟨(txt x).toArray⟩)∧Ext w w':=by
 rcases hb:decide (x.num<0) with _|_
 ·by_cases hd:x.den=1
  ·exact text_pos_one M hM vx x w hx bx htab hb hd
  ·exact text_pos_more M hM vx x w hx bx htab hb hd
 ·by_cases hd:x.den=1
  ·exact text_neg_one M hM vx x w hx bx htab hb hd
  ·exact text_neg_more M hM vx x w hx bx htab hb hd
end Go.Proofs.YtjamgccgoapbeaaGreatDoor
set_option linter.unusedVariables false
set_option maxRecDepth 100000
set_option maxHeartbeats 64000000
namespace Go.Proofs.YtjamgccgoapbeaaGreatDoor
open Go.RowKit
theorem byte_eq (a c:UInt8):((((a.toNat:Nat):Int) == ((c.toNat:Nat):Int))=true↔a=c):=by
 rw [beq_iff_eq]
 constructor
 ·intro e;apply UInt8.toNat_inj.1;omega
 ·rintro rfl;rfl
theorem split_r (l:List UInt8) (c:UInt8) (hs:l.length≤9223372036854775807) (w:World):Calls Tryz.prog 129 #[.string ⟨l.toArray⟩,.int .u8 (c.toNat:Int)] w fun e w'=>e=.returned (.tuple #[.string ⟨(cutB c l).1.toArray⟩,.string ⟨(cutB c l).2.1.toArray⟩,.bool (cutB c l).2.2])∧∃q,w'=w.drewN q:=by
 have hsz:(⟨l.toArray⟩:ByteArray).size=l.length:=by simp [ByteArray.size]
 go_enter Tryz.func129,Tryz.ntmps129
 go_wp2_with fail
 go_loopg [7] (l.length) (fun k i wr=>∃t:Nat,t+k=l.length∧i=.int .i64 (t:Int)∧Hid (c ∉ l.take t)∧wr=w)
 case atStart=>exact⟨0,by omega,rfl,ZZ (by simp),rfl⟩
 case round=>
  obtain⟨t,ht,rfl,HN,rfl⟩:=hrel
  rcases Nat.eq_zero_or_pos gk with hz|hz
  ·subst hz
   obtain rfl:t=l.length:=by omega
   have HNO:=ZZ (show cutB c l=(l,[],false) from cutB_no l c (by have:=HN.out;rwa [List.take_length] at this));go_wp2_with fail;refine bodyPost_ret (v:=.tuple #[.string ⟨l.toArray⟩,.string ⟨#[]⟩,.bool false]) (by simp [results,Tryz.f129]) rfl ?_;exact⟨by rw [HNO.out],0,rfl⟩
  ·have hlt:(t:Int)<(l.length:Int):=by omega
   have htl:t<l.length:=by omega
   have hz1:t<(⟨l.toArray⟩:ByteArray).size:=by rw [hsz];exact htl
   have hge:(⟨l.toArray⟩:ByteArray)[t]'hz1=(l[t]'htl):=by rfl
   have HT:=ZZ ht;have HZ0:=ZZ hz;have HTL:=ZZ htl
   by_cases hb:(l[t]'htl)=c
   ·have ht1:((((⟨l.toArray⟩:ByteArray)[t]'hz1).toNat:Int) == (c.toNat:Int))=true:=by rw [hge];exact(byte_eq _ _).2 hb
    have HY:=ZZ (show cutB c l=(l.take t,l.drop (t+1),true) by
     have h1:l=l.take t ++ c :: l.drop (t+1):=by
      have h0:l=l.take t ++ (l[t]'htl) :: l.drop (t+1):=by rw [←List.drop_eq_getElem_cons htl,List.take_append_drop]
      have h3:l.take t ++ (l[t]'htl) :: l.drop (t+1)=l.take t ++ c :: l.drop (t+1):=by rw [show l[t]'htl=c from hb]
      exact h0.trans h3
     have h2:=cutB_yes (l.take t) (l.drop (t+1)) c HN.out;rw [←h1] at h2;exact h2)
    have hx1:(⟨l.toArray⟩:ByteArray).extract 0 t=⟨(l.take t).toArray⟩:=by apply ByteArray.ext;simp
    have hx2:(⟨l.toArray⟩:ByteArray).extract (t+1) l.length=⟨(l.drop (t+1)).toArray⟩:=by apply ByteArray.ext;simp;exact List.take_of_length_le (by simp)
    have hw:IntKind.i64.wrap ((t:Int)+1)=((t+1:Nat):Int):=(IntWalk.i64_in _ (by omega)).trans (by omega);have hb1:(t:Int)≤(l.length:Int):=by omega
    have hb2:((t+1:Nat):Int)≤(l.length:Int):=by omega
    clear hb hge;go_wp2_with fail
    go_quiet (fail)
    go_wp2_with fail;refine bodyPost_ret (v:=.tuple #[.string ⟨(l.take t).toArray⟩,.string ⟨(l.drop (t+1)).toArray⟩,.bool true]) (by simp [results,Tryz.f129]) rfl ?_
    exact⟨by rw [HY.out],_,rfl⟩
   ·have ht1:((((⟨l.toArray⟩:ByteArray)[t]'hz1).toNat:Int) == (c.toNat:Int))=false:=by
     rw [hge]
     cases h:((((l[t]'htl).toNat:Nat):Int) == ((c.toNat:Nat):Int)) with
     | false=>rfl
     | true=>exact absurd ((byte_eq _ _).1 h) hb
    have HB:=ZZ hb;clear hb hge;have hw:IntKind.i64.wrap ((t:Int)+1)=((t+1:Nat):Int):=(IntWalk.i64_in _ (by omega)).trans (by omega);go_wp2_with fail
    go_roundg (gk - 1)
    case measure=>have:=HZ0.out;omega
    case rel=>
     refine⟨t+1,by have:=HT.out;have:=HZ0.out;omega,by first|rfl|simp,ZZ ?_,rfl⟩;rw [List.take_succ_eq_append_getElem HTL.out,List.mem_append,List.mem_singleton];rintro(h|h)
     ·exact HN.out h
     ·exact HB.out h.symm
theorem all_take {l:List UInt8} {t:Nat} (h:t<l.length) (ha:(l.take t).all isDig=true) (hd:isDig (l[t]'h)=true):(l.take (t+1)).all isDig=true:=by
 rw [List.take_succ_eq_append_getElem h,List.all_append,ha]
 simp [hd]
theorem digits_r (l:List UInt8) (hs:l.length≤9223372036854775807) (w:World):Calls Tryz.prog 130 #[.string ⟨l.toArray⟩] w fun e w'=>e=.returned (.bool (digB l))∧w'=w:=by
 have hsz:(⟨l.toArray⟩:ByteArray).size=l.length:=by simp [ByteArray.size]
 go_enter Tryz.func130,Tryz.ntmps130
 go_wp2_with fail
 go_loopg [3] (l.length) (fun k i wr=>∃t:Nat,t+k=l.length∧i=.int .i64 (t:Int)∧Hid ((l.take t).all isDig=true)∧wr=w)
 case atStart=>exact⟨0,by omega,rfl,ZZ (by simp),rfl⟩
 case round=>
  obtain⟨t,ht,rfl,HN,rfl⟩:=hrel
  rcases Nat.eq_zero_or_pos gk with hz|hz
  ·subst hz
   obtain rfl:t=l.length:=by omega
   have hall:=HN.out;rw [List.take_length] at hall
   have HD:=ZZ (show digB l=decide (0<l.length) by
    unfold digB;rw [hall,Bool.and_true]
    cases l <;> simp)
   clear hall
   by_cases h0:0<l.length
   ·have HD2:=ZZ (show digB l=true by rw [HD.out,decide_eq_true h0])
    have h3:decide ((0:Int)<(l.length:Int))=true:=decide_eq_true (by omega);have h2:decide (0<l.length)=true:=decide_eq_true h0;go_wp2_with fail;go_ret;exact⟨by rw [HD2.out];rfl,rfl⟩
   ·have h1:l.length=0:=by omega
    have HD2:=ZZ (show digB l=false by rw [HD.out,decide_eq_false h0]);have h2:decide (0<l.length)=false:=decide_eq_false h0;have h3:decide ((0:Int)<(l.length:Int))=false:=decide_eq_false (by omega);go_wp2_with fail;go_ret;exact⟨by rw [HD2.out];rfl,rfl⟩
  ·have hlt:(t:Int)<(l.length:Int):=by omega
   have htl:t<l.length:=by omega
   have hz1:t<(⟨l.toArray⟩:ByteArray).size:=by rw [hsz];exact htl
   have hge:(⟨l.toArray⟩:ByteArray)[t]'hz1=(l[t]'htl):=by rfl
   have HT:=ZZ ht;have HZ0:=ZZ hz;have HTL:=ZZ htl;have hw:IntKind.i64.wrap ((t:Int)+1)=((t+1:Nat):Int):=(IntWalk.i64_in _ (by omega)).trans (by omega);obtain⟨x,hx⟩:∃x:Nat,x=((l[t]'htl)).toNat:=⟨_,rfl⟩;have hxe:((⟨l.toArray⟩:ByteArray)[t]'hz1).toNat=x:=by rw [hge,hx]
   by_cases h1:x<48
   ·have ht1:decide ((((⟨l.toArray⟩:ByteArray)[t]'hz1).toNat:Int)<48)=true:=by rw [hxe];simp;omega
    have ht2:decide (((⟨l.toArray⟩:ByteArray)[t]'hz1).toNat<48)=true:=by rw [hxe];simp;omega
    have HNO:=ZZ (show digB l=false by
     unfold digB
     rw [show l.all isDig=false from by
      rw [List.all_eq_false];exact⟨(l[t]'htl),List.getElem_mem _,by cases hq:isDig (l[t]'htl) with
       | false=>exact Bool.false_ne_true
       | true=>exact absurd hq (by rw [isDig_iff,←hx];omega)⟩,Bool.and_false])
    clear hge hxe hx h1;go_wp2_with fail;go_ret;exact⟨by rw [HNO.out];rfl,rfl⟩
   ·have ht1:decide ((((⟨l.toArray⟩:ByteArray)[t]'hz1).toNat:Int)<48)=false:=by rw [hxe];simp;omega
    have ht2:decide (((⟨l.toArray⟩:ByteArray)[t]'hz1).toNat<48)=false:=by rw [hxe];simp;omega
    by_cases h2:57<x
    ·have ht3:decide ((57:Int)<(((⟨l.toArray⟩:ByteArray)[t]'hz1).toNat:Int))=true:=by rw [hxe];simp;omega
     have ht4:decide (57<((⟨l.toArray⟩:ByteArray)[t]'hz1).toNat)=true:=by rw [hxe];simp;omega
     have HNO:=ZZ (show digB l=false by
      unfold digB
      rw [show l.all isDig=false from by
       rw [List.all_eq_false];exact⟨(l[t]'htl),List.getElem_mem _,by cases hq:isDig (l[t]'htl) with
       | false=>exact Bool.false_ne_true
       | true=>exact absurd hq (by rw [isDig_iff,←hx];omega)⟩,Bool.and_false])
     clear hge hxe hx h1 h2;go_wp2_with fail;go_ret;exact⟨by rw [HNO.out];rfl,rfl⟩
    ·have ht3:decide ((57:Int)<(((⟨l.toArray⟩:ByteArray)[t]'hz1).toNat:Int))=false:=by rw [hxe];simp;omega
     have ht4:decide (57<((⟨l.toArray⟩:ByteArray)[t]'hz1).toNat)=false:=by rw [hxe];simp;omega
     have HAT:=ZZ (all_take HTL.out HN.out (by rw [isDig_iff,←hx];omega));clear hge hxe hx h1 h2;go_wp2_with fail
     go_roundg (gk - 1)
     case measure=>have:=HZ0.out;omega
     case rel=>exact⟨t+1,by have:=HT.out;have:=HZ0.out;omega,by first|rfl|simp,HAT,rfl⟩
end Go.Proofs.YtjamgccgoapbeaaGreatDoor
