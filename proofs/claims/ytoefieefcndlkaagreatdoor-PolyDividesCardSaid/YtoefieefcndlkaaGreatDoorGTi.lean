/- Texts: engineering texts, read. The polynomial t. The reference's texts: the sign, the parts, rows of digits; one. The reference's texts: parts and rows of digits. -/
import Derived.Test.YtoefieefcndlkaaGreatDoorGTg
import Derived.Test.YtoefieefcndlkaaGreatDoorGTc
import Derived.Test.YtoefieefcndlkaaGreatDoorGTd
import Derived.Deep.DeepCutAuto
import Derived.Deep.MidRow
import Derived.Deep.LoopGhost
import Derived.Test.YtoefieefcndlkaaGreatDoorGTf
import Derived.Test.YtoefieefcndlkaaGreatDoorGTe
set_option linter.unusedVariables false
set_option maxRecDepth 100000
set_option maxHeartbeats 64000000
namespace Go.Proofs.YtoefieefcndlkaaGreatDoor
open Go.RowKit
def pfxs:List (List UInt8 × Int):=[([102],-15),([112],-12),([110],-9),([117],-6),([109],-3),([],0),([107],3),([77],6),([71],9),([84],12)]
def Pfx (w:World):Prop:=∀i,i<20→w.cell? ⟨0,i,none⟩=((pfxs.map fun p=>[Value.string ⟨p.1.toArray⟩,.int .i64 p.2]).flatten)[i]?
theorem Pfx.mono {w w':World} (h:Pfx w) (k:Ext w w'):Pfx w':=fun i hi=>by
 have h1:=h i hi;rw [←h1]
 have hl:i<((pfxs.map fun p=>[Value.string ⟨p.1.toArray⟩,.int .i64 p.2]).flatten).length:=by
  have:((pfxs.map fun p=>[Value.string ⟨p.1.toArray⟩,.int .i64 p.2]).flatten).length=20:=rfl
  omega
 rw [List.getElem?_eq_getElem hl] at h1;exact(am k h1).trans h1.symm
theorem Pfx.cells {w:World} (h:Pfx w):w.cell? ⟨0,0,none⟩=some (.string ⟨#[102]⟩)∧w.cell? ⟨0,1,none⟩=some (.int .i64 (-15))∧w.cell? ⟨0,2,none⟩=some (.string ⟨#[112]⟩)∧w.cell? ⟨0,3,none⟩=some (.int .i64 (-12))∧w.cell? ⟨0,4,none⟩=some (.string ⟨#[110]⟩)∧w.cell? ⟨0,5,none⟩=some (.int .i64 (-9))∧w.cell? ⟨0,6,none⟩=some (.string ⟨#[117]⟩)∧w.cell? ⟨0,7,none⟩=some (.int .i64 (-6))∧w.cell? ⟨0,8,none⟩=some (.string ⟨#[109]⟩)∧w.cell? ⟨0,9,none⟩=some (.int .i64 (-3))∧w.cell? ⟨0,10,none⟩=some (.string ⟨#[]⟩)∧w.cell? ⟨0,11,none⟩=some (.int .i64 0)∧w.cell? ⟨0,12,none⟩=some (.string ⟨#[107]⟩)∧w.cell? ⟨0,13,none⟩=some (.int .i64 3)∧w.cell? ⟨0,14,none⟩=some (.string ⟨#[77]⟩)∧w.cell? ⟨0,15,none⟩=some (.int .i64 6)∧w.cell? ⟨0,16,none⟩=some (.string ⟨#[71]⟩)∧w.cell? ⟨0,17,none⟩=some (.int .i64 9)∧w.cell? ⟨0,18,none⟩=some (.string ⟨#[84]⟩)∧w.cell? ⟨0,19,none⟩=some (.int .i64 12):=
 ⟨h 0 (by omega),h 1 (by omega),h 2 (by omega),h 3 (by omega),h 4 (by omega),h 5 (by omega),h 6 (by omega),h 7 (by omega),h 8 (by omega),h 9 (by omega),h 10 (by omega),h 11 (by omega),h 12 (by omega),h 13 (by omega),h 14 (by omega),h 15 (by omega),h 16 (by omega),h 17 (by omega),h 18 (by omega),h 19 (by omega)⟩
end Go.Proofs.YtoefieefcndlkaaGreatDoor
set_option linter.unusedVariables false
set_option maxRecDepth 100000
set_option maxHeartbeats 64000000
namespace Go.Proofs.YtoefieefcndlkaaGreatDoor
open Go.RowKit
theorem pl_two {w:World} {s1 s2:Bool} {A1 B1 A2 B2:Option Addr} {k1 ca1 l1 cb1 k2 ca2 l2 cb2:Nat} {x y:Rat} (h1:Nm w (.agg #[.bool s1,.slice A1 k1 ca1,.slice B1 l1 cb1]) x) (h2:Nm w (.agg #[.bool s2,.slice A2 k2 ca2,.slice B2 l2 cb2]) y):Pl (w.alloc (.cells #[.bool s1,.slice A1 k1 ca1,.slice B1 l1 cb1,.bool s2,.slice A2 k2 ca2,.slice B2 l2 cb2] 52)) (.slice (some ⟨w.heap.size,0,none⟩) 2 2) [x,y]:=by
 have hr:=heap_alloc_new w (.cells #[.bool s1,.slice A1 k1 ca1,.slice B1 l1 cb1,.bool s2,.slice A2 k2 ca2,.slice B2 l2 cb2] 52);have e:=ab w (.cells #[.bool s1,.slice A1 k1 ca1,.slice B1 l1 cb1,.bool s2,.slice A2 k2 ca2,.slice B2 l2 cb2] 52);refine⟨_,2,rfl,Nat.le_refl _,.inr ⟨_,0,rfl,fun i q hq=>?_⟩⟩
 match i,hq with
 | 0,hq=>obtain rfl:x=q:=Option.some.inj hq;exact⟨_,_,_,_,_,_,_,by rw [cell_of_row _ _ _ _ _ _ hr];rfl,by rw [cell_of_row _ _ _ _ _ _ hr];rfl,by rw [cell_of_row _ _ _ _ _ _ hr];rfl,h1.mono e⟩
 | 1,hq=>obtain rfl:y=q:=Option.some.inj hq;exact⟨_,_,_,_,_,_,_,by rw [cell_of_row _ _ _ _ _ _ hr];rfl,by rw [cell_of_row _ _ _ _ _ _ hr];rfl,by rw [cell_of_row _ _ _ _ _ _ hr];rfl,h2.mono e⟩
theorem line_p (w:World):Calls Tryz.prog 55 #[] w fun e w'=>∃v',e=.returned v'∧Pl w' v' [0,1]∧Ext w w':=by
 go_enter Tryz.func55,Tryz.ntmps55
 go_wp2_with fail;refine(int_q 0 (by decide) (by decide) _).mono ?_
 rintro e w3 ⟨v3,rfl,h3,k3⟩;obtain⟨s1,A1,k1,ca1,B1,l1,cb1,rfl⟩:=h3.form2;have H3:=ZZ (show Nm w3 (.agg #[.bool s1,.slice A1 k1 ca1,.slice B1 l1 cb1]) 0 from h3);have K3:=ZZ k3;clear h3 k3;go_wp2_with fail;refine(int_q 1 (by decide) (by decide) _).mono ?_;rintro e w4 ⟨v4,rfl,h4,k4⟩;obtain⟨s2,A2,k2,ca2,B2,l2,cb2,rfl⟩:=h4.form2;have H4:=ZZ (show Nm w4 (.agg #[.bool s2,.slice A2 k2 ca2,.slice B2 l2 cb2]) 1 from h4);have K4:=ZZ k4;clear h4 k4;go_wp2_with fail;go_ret;exact⟨_,rfl,pl_two (H3.out.mono K4.out) H4.out,ak K3.out (ak K4.out (ab _ _))⟩
end Go.Proofs.YtoefieefcndlkaaGreatDoor
set_option linter.unusedVariables false
set_option maxRecDepth 100000
set_option maxHeartbeats 64000000
namespace Go.Proofs.YtoefieefcndlkaaGreatDoor
open Go.RowKit
theorem dr_one:dr 1=[1]:=by
 unfold dr;rw [dig_pos B30_two (by omega),B30_eq,show 1 / 1073741824=0 from rfl,dig_zero]
theorem one_f (w:World):Calls Tryz.prog 81 #[] w fun e w'=>∃v,e=.returned v∧Wr w' v 1∧Ext w w'∧Fr w.heap.size v:=by
 go_enter Tryz.func81,Tryz.ntmps81
 go_wp2
 go_ret;refine⟨_,rfl,?_,ab _ _,fun b hb=>by cases hb;exact Nat.le_refl _⟩
 refine⟨some ⟨w.heap.size,0,none⟩,1,by rw [dr_one];rfl,by rw [dr_one];simp,?_⟩;rw [dr_one];exact cl_new w [i64n 1] 2
theorem one_r (w:World):Calls Tryz.prog 81 #[] w fun e w'=>∃v,e=.returned v∧Wr w' v 1∧Ext w w':=(one_f w).mono fun e w' ⟨v,h1,h2,h3,_⟩=>⟨v,h1,h2,h3⟩
theorem ris1_iff (n:Nat):n=1↔(dr n).length=1∧(dr n).getD 0 0=1:=by
 constructor
 ·rintro rfl;rw [dr_one];simp
 ·rintro⟨h1,h2⟩
  have e:=num_dr n
  match h:dr n,h1,h2 with
  | [d],_,h2=>rw [h] at e;simp at h2 e;omega
theorem is1_r (va:Value) (n:Nat) (b:Bool) (hb:decide (n=1)=b) (w:World) (ha:Wr w va n):Calls Tryz.prog 82 #[va] w fun e w'=>e=.returned (.bool b)∧w=w':=by
 obtain⟨A,ca,rfl,hca,hA⟩:=ha;have hi:=ris1_iff n
 by_cases hl:(dr n).length=1
 ·obtain⟨ba,oa,rfl,hc⟩:=hA.i (by omega)
  have h0:w.cell? ⟨ba,oa,none⟩=some (.int .i64 (((dr n).getD 0 0:Nat):Int)):=by have h1:=hc 0 (by omega);rwa [Nat.add_zero] at h1
  clear hc hA
  have Hi:Hid (decide ((dr n).getD 0 0=1)=b):=by
   rw [←hb];show decide _=decide _;simp only [hi,hl,true_and]
  clear hi;generalize (dr n).getD 0 0=x at *;have hlt:((((dr n).length:Nat):Int) == 1)=true:=by simp;omega
  have hp:(0:Int)<((dr n).length:Nat):=by omega
  have hp':0<(dr n).length:=by omega
  generalize (dr n).length=k at *
  by_cases hx:x=1
  ·have ht:((x:Int) == 1)=true:=by simp;omega
   have Hb:Hid (b=true):=by have:=Hi.out;rw [←this];exact decide_eq_true hx
   clear hx hb hl
   go_enter Tryz.func82,Tryz.ntmps82
   go_wp2
   go_ret;rw [Hb.out]
   exact⟨rfl,rfl⟩
  ·have ht:((x:Int) == 1)=false:=by simp;omega
   have Hb:Hid (b=false):=by have:=Hi.out;rw [←this];exact decide_eq_false hx
   clear hx hb hl
   go_enter Tryz.func82,Tryz.ntmps82
   go_wp2
   go_ret;rw [Hb.out]
   exact⟨rfl,rfl⟩
 ·have hlt:((((dr n).length:Nat):Int) == 1)=false:=by simp;omega
  have Hb:Hid (b=false):=by rw [←hb];exact decide_eq_false (fun h=>hl (hi.1 h).1)
  clear hl hb hi;generalize (dr n).length=k at *
  go_enter Tryz.func82,Tryz.ntmps82
  go_wp2
  go_ret;rw [Hb.out]
  exact⟨rfl,rfl⟩
def sgnB (b:Bool):Int:=if b=true then -1 else 1
theorem minus_no {c:UInt8} {l:List UInt8} (h:c≠45):minusB (c :: l)=false∧restB (c :: l)=c :: l:=by
 have hne:¬(45:UInt8)=c:=fun e=>h e.symm;unfold minusB restB Lib.trimPrefix Lib.hasPrefix
 simp [List.isPrefixOf,hne]
theorem minus_yes (l:List UInt8):minusB (45 :: l)=true∧restB (45 :: l)=l:=by
 unfold minusB restB Lib.trimPrefix Lib.hasPrefix
 simp [List.isPrefixOf]
theorem signed_r (l:List UInt8) (hs:l.length≤9223372036854775807) (w:World):Calls Tryz.prog 76 #[.string ⟨l.toArray⟩] w fun e w'=>e=.returned (.tuple #[.string ⟨(restB l).toArray⟩,.int .i64 (sgnB (minusB l))])∧w'=w:=by
 rcases l with _|⟨c,l⟩
 ·have h1:minusB []=false:=rfl
  have h2:restB []=[]:=rfl;rw [h1,h2]
  go_enter Tryz.func76,Tryz.ntmps76
  go_wp2_with fail;refine bodyPost_ret (v:=.tuple #[.string ⟨#[]⟩,.int .i64 1]) (by simp [results,Tryz.f76]) rfl ?_
  exact⟨rfl,rfl⟩
 ·have hsz:(⟨(c :: l).toArray⟩:ByteArray).size=l.length+1:=by simp [ByteArray.size]
  have hz1:0<(⟨(c :: l).toArray⟩:ByteArray).size:=by rw [hsz];omega
  have hge:(⟨(c :: l).toArray⟩:ByteArray)[0]'hz1=c:=by rfl
  have hp:(0:Int)<((l.length+1:Nat):Int):=by omega
  have hx:(⟨(c :: l).toArray⟩:ByteArray).extract 1 (l.length+1)=⟨l.toArray⟩:=by apply ByteArray.ext;simp
  by_cases h:c=45
  ·subst h
   have ht:((((⟨(45 :: l).toArray⟩:ByteArray)[0]'hz1).toNat:Int) == 45)=true:=by rw [hge];rfl
   have HM:=ZZ (minus_yes l);clear hge
   go_enter Tryz.func76,Tryz.ntmps76
   go_wp2_with fail;refine bodyPost_ret (v:=.tuple #[.string ⟨l.toArray⟩,.int .i64 (-1)]) (by simp [results,Tryz.f76]) rfl ?_
   exact⟨by rw [HM.out.1,HM.out.2];rfl,rfl⟩
  ·have ht:((((⟨(c :: l).toArray⟩:ByteArray)[0]'hz1).toNat:Int) == 45)=false:=by
    rw [hge,beq_eq_false_iff_ne];intro e
    apply h
    apply UInt8.toNat_inj.1
    have e45:(45:UInt8).toNat=45:=rfl;omega
   have HM:=ZZ (minus_no (l:=l) h);clear hge h
   go_enter Tryz.func76,Tryz.ntmps76
   go_wp2_with fail;refine bodyPost_ret (v:=.tuple #[.string ⟨(c :: l).toArray⟩,.int .i64 1]) (by simp [results,Tryz.f76]) rfl ?_
   exact⟨by rw [HM.out.1,HM.out.2];rfl,rfl⟩
end Go.Proofs.YtoefieefcndlkaaGreatDoor
set_option linter.unusedVariables false
set_option maxRecDepth 100000
set_option maxHeartbeats 64000000
namespace Go.Proofs.YtoefieefcndlkaaGreatDoor
open Go.RowKit
theorem byte_eq (a c:UInt8):((((a.toNat:Nat):Int) == ((c.toNat:Nat):Int))=true↔a=c):=by
 rw [beq_iff_eq]
 constructor
 ·intro e;apply UInt8.toNat_inj.1;omega
 ·rintro rfl;rfl
theorem split_r (l:List UInt8) (c:UInt8) (hs:l.length≤9223372036854775807) (w:World):Calls Tryz.prog 77 #[.string ⟨l.toArray⟩,.int .u8 (c.toNat:Int)] w fun e w'=>e=.returned (.tuple #[.string ⟨(cutB c l).1.toArray⟩,.string ⟨(cutB c l).2.1.toArray⟩,.bool (cutB c l).2.2])∧∃q,w'=w.drewN q:=by
 have hsz:(⟨l.toArray⟩:ByteArray).size=l.length:=by simp [ByteArray.size]
 go_enter Tryz.func77,Tryz.ntmps77
 go_wp2_with fail
 go_loopg [7] (l.length) (fun k i wr=>∃t:Nat,t+k=l.length∧i=.int .i64 (t:Int)∧Hid (c ∉ l.take t)∧wr=w)
 case atStart=>exact⟨0,by omega,rfl,ZZ (by simp),rfl⟩
 case round=>
  obtain⟨t,ht,rfl,HN,rfl⟩:=hrel
  rcases Nat.eq_zero_or_pos gk with hz|hz
  ·subst hz
   obtain rfl:t=l.length:=by omega
   have HNO:=ZZ (show cutB c l=(l,[],false) from cutB_no l c (by have:=HN.out;rwa [List.take_length] at this));go_wp2_with fail;refine bodyPost_ret (v:=.tuple #[.string ⟨l.toArray⟩,.string ⟨#[]⟩,.bool false]) (by simp [results,Tryz.f77]) rfl ?_;exact⟨by rw [HNO.out],0,rfl⟩
  ·have hlt:(t:Int)<(l.length:Int):=by omega
   have htl:t<l.length:=by omega
   have hz1:t<(⟨l.toArray⟩:ByteArray).size:=by rw [hsz];exact htl
   have hge:(⟨l.toArray⟩:ByteArray)[t]'hz1=(l[t]'htl):=by rfl
   have HT:=ZZ ht;have HZ0:=ZZ hz;have HTL:=ZZ htl
   by_cases hb:(l[t]'htl)=c
   ·have ht1:((((⟨l.toArray⟩:ByteArray)[t]'hz1).toNat:Int) == (c.toNat:Int))=true:=by rw [hge];exact(byte_eq _ _).2 hb
    have HY:=ZZ (show cutB c l=(l.take t,l.drop (t+1),true) by
     have h1:l=l.take t ++ c :: l.drop (t+1):=by
      have h0:l=l.take t ++ (l[t]'htl) :: l.drop (t+1):=by rw [←List.drop_eq_getElem_cons htl,List.take_append_drop]
      have h3:l.take t ++ (l[t]'htl) :: l.drop (t+1)=l.take t ++ c :: l.drop (t+1):=by rw [show l[t]'htl=c from hb]
      exact h0.trans h3
     have h2:=cutB_yes (l.take t) (l.drop (t+1)) c HN.out;rw [←h1] at h2;exact h2)
    have hx1:(⟨l.toArray⟩:ByteArray).extract 0 t=⟨(l.take t).toArray⟩:=by apply ByteArray.ext;simp
    have hx2:(⟨l.toArray⟩:ByteArray).extract (t+1) l.length=⟨(l.drop (t+1)).toArray⟩:=by apply ByteArray.ext;simp;exact List.take_of_length_le (by simp)
    have hw:IntKind.i64.wrap ((t:Int)+1)=((t+1:Nat):Int):=(IntWalk.i64_in _ (by omega)).trans (by omega);have hb1:(t:Int)≤(l.length:Int):=by omega
    have hb2:((t+1:Nat):Int)≤(l.length:Int):=by omega
    clear hb hge;go_wp2_with fail
    go_quiet (fail)
    go_wp2_with fail;refine bodyPost_ret (v:=.tuple #[.string ⟨(l.take t).toArray⟩,.string ⟨(l.drop (t+1)).toArray⟩,.bool true]) (by simp [results,Tryz.f77]) rfl ?_
    exact⟨by rw [HY.out],_,rfl⟩
   ·have ht1:((((⟨l.toArray⟩:ByteArray)[t]'hz1).toNat:Int) == (c.toNat:Int))=false:=by
     rw [hge]
     cases h:((((l[t]'htl).toNat:Nat):Int) == ((c.toNat:Nat):Int)) with
     | false=>rfl
     | true=>exact absurd ((byte_eq _ _).1 h) hb
    have HB:=ZZ hb;clear hb hge;have hw:IntKind.i64.wrap ((t:Int)+1)=((t+1:Nat):Int):=(IntWalk.i64_in _ (by omega)).trans (by omega);go_wp2_with fail
    go_roundg (gk - 1)
    case measure=>have:=HZ0.out;omega
    case rel=>
     refine⟨t+1,by have:=HT.out;have:=HZ0.out;omega,by first|rfl|simp,ZZ ?_,rfl⟩;rw [List.take_succ_eq_append_getElem HTL.out,List.mem_append,List.mem_singleton];rintro(h|h)
     ·exact HN.out h
     ·exact HB.out h.symm
theorem all_take {l:List UInt8} {t:Nat} (h:t<l.length) (ha:(l.take t).all isDig=true) (hd:isDig (l[t]'h)=true):(l.take (t+1)).all isDig=true:=by
 rw [List.take_succ_eq_append_getElem h,List.all_append,ha]
 simp [hd]
theorem digits_r (l:List UInt8) (hs:l.length≤9223372036854775807) (w:World):Calls Tryz.prog 78 #[.string ⟨l.toArray⟩] w fun e w'=>e=.returned (.bool (digB l))∧w'=w:=by
 have hsz:(⟨l.toArray⟩:ByteArray).size=l.length:=by simp [ByteArray.size]
 go_enter Tryz.func78,Tryz.ntmps78
 go_wp2_with fail
 go_loopg [3] (l.length) (fun k i wr=>∃t:Nat,t+k=l.length∧i=.int .i64 (t:Int)∧Hid ((l.take t).all isDig=true)∧wr=w)
 case atStart=>exact⟨0,by omega,rfl,ZZ (by simp),rfl⟩
 case round=>
  obtain⟨t,ht,rfl,HN,rfl⟩:=hrel
  rcases Nat.eq_zero_or_pos gk with hz|hz
  ·subst hz
   obtain rfl:t=l.length:=by omega
   have hall:=HN.out;rw [List.take_length] at hall
   have HD:=ZZ (show digB l=decide (0<l.length) by
    unfold digB;rw [hall,Bool.and_true]
    cases l <;> simp)
   clear hall
   by_cases h0:0<l.length
   ·have HD2:=ZZ (show digB l=true by rw [HD.out,decide_eq_true h0])
    have h3:decide ((0:Int)<(l.length:Int))=true:=decide_eq_true (by omega);have h2:decide (0<l.length)=true:=decide_eq_true h0;go_wp2_with fail;go_ret;exact⟨by rw [HD2.out];rfl,rfl⟩
   ·have h1:l.length=0:=by omega
    have HD2:=ZZ (show digB l=false by rw [HD.out,decide_eq_false h0]);have h2:decide (0<l.length)=false:=decide_eq_false h0;have h3:decide ((0:Int)<(l.length:Int))=false:=decide_eq_false (by omega);go_wp2_with fail;go_ret;exact⟨by rw [HD2.out];rfl,rfl⟩
  ·have hlt:(t:Int)<(l.length:Int):=by omega
   have htl:t<l.length:=by omega
   have hz1:t<(⟨l.toArray⟩:ByteArray).size:=by rw [hsz];exact htl
   have hge:(⟨l.toArray⟩:ByteArray)[t]'hz1=(l[t]'htl):=by rfl
   have HT:=ZZ ht;have HZ0:=ZZ hz;have HTL:=ZZ htl;have hw:IntKind.i64.wrap ((t:Int)+1)=((t+1:Nat):Int):=(IntWalk.i64_in _ (by omega)).trans (by omega);obtain⟨x,hx⟩:∃x:Nat,x=((l[t]'htl)).toNat:=⟨_,rfl⟩;have hxe:((⟨l.toArray⟩:ByteArray)[t]'hz1).toNat=x:=by rw [hge,hx]
   by_cases h1:x<48
   ·have ht1:decide ((((⟨l.toArray⟩:ByteArray)[t]'hz1).toNat:Int)<48)=true:=by rw [hxe];simp;omega
    have ht2:decide (((⟨l.toArray⟩:ByteArray)[t]'hz1).toNat<48)=true:=by rw [hxe];simp;omega
    have HNO:=ZZ (show digB l=false by
     unfold digB
     rw [show l.all isDig=false from by
      rw [List.all_eq_false];exact⟨(l[t]'htl),List.getElem_mem _,by cases hq:isDig (l[t]'htl) with
       | false=>exact Bool.false_ne_true
       | true=>exact absurd hq (by rw [isDig_iff,←hx];omega)⟩,Bool.and_false])
    clear hge hxe hx h1;go_wp2_with fail;go_ret;exact⟨by rw [HNO.out];rfl,rfl⟩
   ·have ht1:decide ((((⟨l.toArray⟩:ByteArray)[t]'hz1).toNat:Int)<48)=false:=by rw [hxe];simp;omega
    have ht2:decide (((⟨l.toArray⟩:ByteArray)[t]'hz1).toNat<48)=false:=by rw [hxe];simp;omega
    by_cases h2:57<x
    ·have ht3:decide ((57:Int)<(((⟨l.toArray⟩:ByteArray)[t]'hz1).toNat:Int))=true:=by rw [hxe];simp;omega
     have ht4:decide (57<((⟨l.toArray⟩:ByteArray)[t]'hz1).toNat)=true:=by rw [hxe];simp;omega
     have HNO:=ZZ (show digB l=false by
      unfold digB
      rw [show l.all isDig=false from by
       rw [List.all_eq_false];exact⟨(l[t]'htl),List.getElem_mem _,by cases hq:isDig (l[t]'htl) with
       | false=>exact Bool.false_ne_true
       | true=>exact absurd hq (by rw [isDig_iff,←hx];omega)⟩,Bool.and_false])
     clear hge hxe hx h1 h2;go_wp2_with fail;go_ret;exact⟨by rw [HNO.out];rfl,rfl⟩
    ·have ht3:decide ((57:Int)<(((⟨l.toArray⟩:ByteArray)[t]'hz1).toNat:Int))=false:=by rw [hxe];simp;omega
     have ht4:decide (57<((⟨l.toArray⟩:ByteArray)[t]'hz1).toNat)=false:=by rw [hxe];simp;omega
     have HAT:=ZZ (all_take HTL.out HN.out (by rw [isDig_iff,←hx];omega));clear hge hxe hx h1 h2;go_wp2_with fail
     go_roundg (gk - 1)
     case measure=>have:=HZ0.out;omega
     case rel=>exact⟨t+1,by have:=HT.out;have:=HZ0.out;omega,by first|rfl|simp,HAT,rfl⟩
end Go.Proofs.YtoefieefcndlkaaGreatDoor
