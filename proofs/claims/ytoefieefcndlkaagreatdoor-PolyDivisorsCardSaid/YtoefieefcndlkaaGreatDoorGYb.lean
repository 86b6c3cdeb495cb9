/- Spans: their cells; in order. Plain laws of spans: results of numbers are in the results of their spans. Spans: joins, sums, meets. Printed by gen_vs.py. Spans: products. Printed by gen_vm.py. Plain laws of spans: what the reference computes of the ends is what the program computes. Spans: whether a number is within, points, negatives, sums, differences, rounding outward. Printed by gen_sa.py. The reference's texts: parts and rows of digits. Square-free parts. Spans of the values of a polynomial. Printed by gen_yb.py. -/
import Derived.Test.YtoefieefcndlkaaGreatDoorGNg
import Derived.Test.YtoefieefcndlkaaGreatDoorGQp
import Derived.Test.YtoefieefcndlkaaGreatDoorGVx
import Derived.Test.YtoefieefcndlkaaGreatDoorGNe
import Derived.Deep.RegionHeld3
import Derived.Deep.DeepCutAuto
import Derived.Test.YtoefieefcndlkaaGreatDoorGRb
import Derived.Test.YtoefieefcndlkaaGreatDoorGQz
set_option linter.unusedVariables false
set_option maxRecDepth 100000
set_option maxHeartbeats 64000000
namespace Go.Proofs.YtoefieefcndlkaaGreatDoor
open Go.RowKit
def Sp (w:World) (v:Value) (lo hi:Rat):Prop:=∃x0 x1 x2 y0 y1 y2,v=.agg #[x0,x1,x2,y0,y1,y2]∧Nm w (.agg #[x0,x1,x2]) lo∧Nm w (.agg #[y0,y1,y2]) hi
theorem Sp.mono {w w':World} {v:Value} {lo hi:Rat} (h:Sp w v lo hi) (k:Ext w w'):Sp w' v lo hi:=by
 obtain⟨x0,x1,x2,y0,y1,y2,e,h1,h2⟩:=h;exact⟨x0,x1,x2,y0,y1,y2,e,h1.mono k,h2.mono k⟩
theorem Sp.form {w:World} {v:Value} {lo hi:Rat} (h:Sp w v lo hi):∃b1 A k ca B l cb b2 C m cc D n cd,v=.agg #[.bool b1,.slice A k ca,.slice B l cb,.bool b2,.slice C m cc,.slice D n cd]∧Nm w (.agg #[.bool b1,.slice A k ca,.slice B l cb]) lo∧Nm w (.agg #[.bool b2,.slice C m cc,.slice D n cd]) hi:=by
 obtain⟨x0,x1,x2,y0,y1,y2,rfl,h1,h2⟩:=h;obtain⟨b1,A,k,ca,B,l,cb,e1⟩:=h1.form2;obtain⟨b2,C,m,cc,D,n,cd,e2⟩:=h2.form2
 simp only [Value.agg.injEq,Array.mk.injEq,List.cons.injEq,and_true] at e1 e2
 obtain⟨rfl,rfl,rfl⟩:=e1;obtain⟨rfl,rfl,rfl⟩:=e2;exact⟨b1,A,k,ca,B,l,cb,b2,C,m,cc,D,n,cd,rfl,h1,h2⟩
theorem ah {W:World} {g:Nat} {a b c d e f:Value} {T:TypeId} (h:W.heap[g]?=some (.cells #[a,b,c,d,e,f] T (0,0))):W.cell? ⟨g,0,none⟩=some a∧W.cell? ⟨g,1,none⟩=some b∧W.cell? ⟨g,2,none⟩=some c∧W.cell? ⟨g,3,none⟩=some d∧W.cell? ⟨g,4,none⟩=some e∧W.cell? ⟨g,5,none⟩=some f∧W.frozen? ⟨g,0,none⟩=false∧W.frozen? ⟨g,1,none⟩=false∧W.frozen? ⟨g,2,none⟩=false∧W.frozen? ⟨g,3,none⟩=false∧W.frozen? ⟨g,4,none⟩=false∧W.frozen? ⟨g,5,none⟩=false:=by
 refine⟨?_,?_,?_,?_,?_,?_,?_,?_,?_,?_,?_,?_⟩ <;> simp [World.cell?,World.frozen?,h]
def put6 (W:World) (g:Nat) (a b c d e f:Value):World:=(((((W.setCell ⟨g,0,none⟩ a).setCell ⟨g,1,none⟩ b).setCell ⟨g,2,none⟩ c).setCell ⟨g,3,none⟩ d).setCell ⟨g,4,none⟩ e).setCell ⟨g,5,none⟩ f
theorem af {w W:World} {g:Nat} (h:Ext w W) (hg:w.heap.size≤g) (a b c d e f:Value):Ext w (put6 W g a b c d e f):=
 ((((((h.setCell hg _).setCell hg _).setCell hg _).setCell hg _).setCell hg _).setCell hg _)
theorem ag {W:World} {g:Nat} {a0 b0 c0 d0 e0 f0:Value} {T:TypeId} (h:W.heap[g]?=some (.cells #[a0,b0,c0,d0,e0,f0] T (0,0))) (a b c d e f:Value):(put6 W g a b c d e f).heap[g]?=some (.cells #[a,b,c,d,e,f] T (0,0)):=by
 unfold put6
 simp [World.setCell,Array.getElem?_modify,h]
theorem Wd.put6 {W:World} {v:Value} {q g:Nat} {b1 b2:Bool} {A B C D:Option Addr} {k ca l cb m cc n cd:Nat} {T:TypeId} (h:Wd W v q) (hg:W.heap[g]?=some (.cells #[.bool b1,.slice A k ca,.slice B l cb,.bool b2,.slice C m cc,.slice D n cd] T (0,0))) (a b c d e f:Value):Wd (put6 W g a b c d e f) v q:=by
 obtain⟨A',cx,e',hc,hcl⟩:=h;refine⟨A',cx,e',hc,?_⟩
 rcases Nat.eq_zero_or_pos (dg q).length with h0|h0
 ·left;rw [List.length_eq_zero_iff.1 h0];rfl
 ·obtain⟨bl,o,hA,hce⟩:=hcl.at_ (by simpa using h0)
  right
  refine⟨bl,o,hA,fun j hj=>?_⟩;have hj':j<(dg q).length:=by simpa using hj
  have h1:=hce j hj
  have hne:bl≠g:=by
   intro hb;subst hb;rw [getD_map_u64 _ _ hj'] at h1
   simp only [World.cell?,hg] at h1
   rcases Nat.lt_or_ge (o+j) 6 with h3|h3
   ·rcases(show o+j=0∨o+j=1∨o+j=2∨o+j=3∨o+j=4∨o+j=5 by omega) with e|e|e|e|e|e <;> rw [e] at h1 <;> simp at h1
   ·rw [Array.getElem?_eq_none (by simpa using h3)] at h1
    simp at h1
  rw [←h1]
  apply World.cell?_of_block
  unfold Go.Proofs.YtoefieefcndlkaaGreatDoor.put6;rw [Below.heap_setCell _ _ _ _ hne,Below.heap_setCell _ _ _ _ hne,Below.heap_setCell _ _ _ _ hne,Below.heap_setCell _ _ _ _ hne,Below.heap_setCell _ _ _ _ hne,Below.heap_setCell _ _ _ _ hne]
theorem Nm.put6 {W:World} {v:Value} {q:Rat} {g:Nat} {b1 b2:Bool} {A B C D:Option Addr} {k ca l cb m cc n cd:Nat} {T:TypeId} (h:Nm W v q) (hg:W.heap[g]?=some (.cells #[.bool b1,.slice A k ca,.slice B l cb,.bool b2,.slice C m cc,.slice D n cd] T (0,0))) (a b c d e f:Value):Nm (put6 W g a b c d e f) v q:=by
 obtain⟨vn,vd,e',h1,h2⟩:=h;exact⟨vn,vd,e',h1.put6 hg ..,h2.put6 hg ..⟩
end Go.Proofs.YtoefieefcndlkaaGreatDoor
set_option linter.unusedVariables false
set_option maxRecDepth 100000
set_option maxHeartbeats 64000000
namespace Go.Proofs.YtoefieefcndlkaaGreatDoor
end Go.Proofs.YtoefieefcndlkaaGreatDoor
set_option linter.unusedVariables false
set_option maxRecDepth 100000
set_option maxHeartbeats 64000000
namespace Go.Proofs.YtoefieefcndlkaaGreatDoor
open Go.RowKit
theorem Sp.put6 {W:World} {v:Value} {lo hi:Rat} {g:Nat} {b1 b2:Bool} {A B C D:Option Addr} {k ca l cb m cc n cd:Nat} {T:TypeId} (h:Sp W v lo hi) (hg:W.heap[g]?=some (.cells #[.bool b1,.slice A k ca,.slice B l cb,.bool b2,.slice C m cc,.slice D n cd] T (0,0))) (a b c d e f:Value):Sp (put6 W g a b c d e f) v lo hi:=by
 obtain⟨x0,x1,x2,y0,y1,y2,e',h1,h2⟩:=h;exact⟨x0,x1,x2,y0,y1,y2,e',h1.put6 hg ..,h2.put6 hg ..⟩
end Go.Proofs.YtoefieefcndlkaaGreatDoor
namespace Go.Proofs.YtoefieefcndlkaaGreatDoor
open Go.RowKit
end Go.Proofs.YtoefieefcndlkaaGreatDoor
set_option linter.unusedVariables false
set_option maxRecDepth 100000
set_option maxHeartbeats 64000000
namespace Go.Proofs.YtoefieefcndlkaaGreatDoor
open Go.RowKit
end Go.Proofs.YtoefieefcndlkaaGreatDoor
set_option linter.unusedVariables false
set_option maxRecDepth 100000
set_option maxHeartbeats 64000000
namespace Go.Proofs.YtoefieefcndlkaaGreatDoor
open Go.RowKit
end Go.Proofs.YtoefieefcndlkaaGreatDoor
set_option linter.unusedVariables false
set_option maxRecDepth 100000
set_option maxHeartbeats 64000000
namespace Go.Proofs.YtoefieefcndlkaaGreatDoor
open Go.RowKit
theorem byte_eq (a c:UInt8):((((a.toNat:Nat):Int) == ((c.toNat:Nat):Int))=true↔a=c):=by
 rw [beq_iff_eq]
 constructor
 ·intro e;apply UInt8.toNat_inj.1;omega
 ·rintro rfl;rfl
theorem split_r (l:List UInt8) (c:UInt8) (hs:l.length≤9223372036854775807) (w:World):Calls Tryz.prog 77 #[.string ⟨l.toArray⟩,.int .u8 (c.toNat:Int)] w fun e w'=>e=.returned (.tuple #[.string ⟨(cutB c l).1.toArray⟩,.string ⟨(cutB c l).2.1.toArray⟩,.bool (cutB c l).2.2])∧∃q,w'=w.drewN q:=by
 have hsz:(⟨l.toArray⟩:ByteArray).size=l.length:=by simp [ByteArray.size]
 go_enter Tryz.func77,Tryz.ntmps77
 go_wp2_with fail
 go_loopg [7] (l.length) (fun k i wr=>∃t:Nat,t+k=l.length∧i=.int .i64 (t:Int)∧Hid (c ∉ l.take t)∧wr=w)
 case atStart=>exact⟨0,by omega,rfl,ZZ (by simp),rfl⟩
 case round=>
  obtain⟨t,ht,rfl,HN,rfl⟩:=hrel
  rcases Nat.eq_zero_or_pos gk with hz|hz
  ·subst hz
   obtain rfl:t=l.length:=by omega
   have HNO:=ZZ (show cutB c l=(l,[],false) from cutB_no l c (by have:=HN.out;rwa [List.take_length] at this));go_wp2_with fail;refine bodyPost_ret (v:=.tuple #[.string ⟨l.toArray⟩,.string ⟨#[]⟩,.bool false]) (by simp [results,Tryz.f77]) rfl ?_;exact⟨by rw [HNO.out],0,rfl⟩
  ·have hlt:(t:Int)<(l.length:Int):=by omega
   have htl:t<l.length:=by omega
   have hz1:t<(⟨l.toArray⟩:ByteArray).size:=by rw [hsz];exact htl
   have hge:(⟨l.toArray⟩:ByteArray)[t]'hz1=(l[t]'htl):=by rfl
   have HT:=ZZ ht;have HZ0:=ZZ hz;have HTL:=ZZ htl
   by_cases hb:(l[t]'htl)=c
   ·have ht1:((((⟨l.toArray⟩:ByteArray)[t]'hz1).toNat:Int) == (c.toNat:Int))=true:=by rw [hge];exact(byte_eq _ _).2 hb
    have HY:=ZZ (show cutB c l=(l.take t,l.drop (t+1),true) by
     have h1:l=l.take t ++ c :: l.drop (t+1):=by
      have h0:l=l.take t ++ (l[t]'htl) :: l.drop (t+1):=by rw [←List.drop_eq_getElem_cons htl,List.take_append_drop]
      have h3:l.take t ++ (l[t]'htl) :: l.drop (t+1)=l.take t ++ c :: l.drop (t+1):=by rw [show l[t]'htl=c from hb]
      exact h0.trans h3
     have h2:=cutB_yes (l.take t) (l.drop (t+1)) c HN.out;rw [←h1] at h2;exact h2)
    have hx1:(⟨l.toArray⟩:ByteArray).extract 0 t=⟨(l.take t).toArray⟩:=by apply ByteArray.ext;simp
    have hx2:(⟨l.toArray⟩:ByteArray).extract (t+1) l.length=⟨(l.drop (t+1)).toArray⟩:=by apply ByteArray.ext;simp;exact List.take_of_length_le (by simp)
    have hw:IntKind.i64.wrap ((t:Int)+1)=((t+1:Nat):Int):=(IntWalk.i64_in _ (by omega)).trans (by omega);have hb1:(t:Int)≤(l.length:Int):=by omega
    have hb2:((t+1:Nat):Int)≤(l.length:Int):=by omega
    clear hb hge;go_wp2_with fail
    go_quiet (fail)
    go_wp2_with fail;refine bodyPost_ret (v:=.tuple #[.string ⟨(l.take t).toArray⟩,.string ⟨(l.drop (t+1)).toArray⟩,.bool true]) (by simp [results,Tryz.f77]) rfl ?_
    exact⟨by rw [HY.out],_,rfl⟩
   ·have ht1:((((⟨l.toArray⟩:ByteArray)[t]'hz1).toNat:Int) == (c.toNat:Int))=false:=by
     rw [hge]
     cases h:((((l[t]'htl).toNat:Nat):Int) == ((c.toNat:Nat):Int)) with
     | false=>rfl
     | true=>exact absurd ((byte_eq _ _).1 h) hb
    have HB:=ZZ hb;clear hb hge;have hw:IntKind.i64.wrap ((t:Int)+1)=((t+1:Nat):Int):=(IntWalk.i64_in _ (by omega)).trans (by omega);go_wp2_with fail
    go_roundg (gk - 1)
    case measure=>have:=HZ0.out;omega
    case rel=>
     refine⟨t+1,by have:=HT.out;have:=HZ0.out;omega,by first|rfl|simp,ZZ ?_,rfl⟩;rw [List.take_succ_eq_append_getElem HTL.out,List.mem_append,List.mem_singleton];rintro(h|h)
     ·exact HN.out h
     ·exact HB.out h.symm
theorem all_take {l:List UInt8} {t:Nat} (h:t<l.length) (ha:(l.take t).all isDig=true) (hd:isDig (l[t]'h)=true):(l.take (t+1)).all isDig=true:=by
 rw [List.take_succ_eq_append_getElem h,List.all_append,ha]
 simp [hd]
theorem digits_r (l:List UInt8) (hs:l.length≤9223372036854775807) (w:World):Calls Tryz.prog 78 #[.string ⟨l.toArray⟩] w fun e w'=>e=.returned (.bool (digB l))∧w'=w:=by
 have hsz:(⟨l.toArray⟩:ByteArray).size=l.length:=by simp [ByteArray.size]
 go_enter Tryz.func78,Tryz.ntmps78
 go_wp2_with fail
 go_loopg [3] (l.length) (fun k i wr=>∃t:Nat,t+k=l.length∧i=.int .i64 (t:Int)∧Hid ((l.take t).all isDig=true)∧wr=w)
 case atStart=>exact⟨0,by omega,rfl,ZZ (by simp),rfl⟩
 case round=>
  obtain⟨t,ht,rfl,HN,rfl⟩:=hrel
  rcases Nat.eq_zero_or_pos gk with hz|hz
  ·subst hz
   obtain rfl:t=l.length:=by omega
   have hall:=HN.out;rw [List.take_length] at hall
   have HD:=ZZ (show digB l=decide (0<l.length) by
    unfold digB;rw [hall,Bool.and_true]
    cases l <;> simp)
   clear hall
   by_cases h0:0<l.length
   ·have HD2:=ZZ (show digB l=true by rw [HD.out,decide_eq_true h0])
    have h3:decide ((0:Int)<(l.length:Int))=true:=decide_eq_true (by omega);have h2:decide (0<l.length)=true:=decide_eq_true h0;go_wp2_with fail;go_ret;exact⟨by rw [HD2.out];rfl,rfl⟩
   ·have h1:l.length=0:=by omega
    have HD2:=ZZ (show digB l=false by rw [HD.out,decide_eq_false h0]);have h2:decide (0<l.length)=false:=decide_eq_false h0;have h3:decide ((0:Int)<(l.length:Int))=false:=decide_eq_false (by omega);go_wp2_with fail;go_ret;exact⟨by rw [HD2.out];rfl,rfl⟩
  ·have hlt:(t:Int)<(l.length:Int):=by omega
   have htl:t<l.length:=by omega
   have hz1:t<(⟨l.toArray⟩:ByteArray).size:=by rw [hsz];exact htl
   have hge:(⟨l.toArray⟩:ByteArray)[t]'hz1=(l[t]'htl):=by rfl
   have HT:=ZZ ht;have HZ0:=ZZ hz;have HTL:=ZZ htl;have hw:IntKind.i64.wrap ((t:Int)+1)=((t+1:Nat):Int):=(IntWalk.i64_in _ (by omega)).trans (by omega);obtain⟨x,hx⟩:∃x:Nat,x=((l[t]'htl)).toNat:=⟨_,rfl⟩;have hxe:((⟨l.toArray⟩:ByteArray)[t]'hz1).toNat=x:=by rw [hge,hx]
   by_cases h1:x<48
   ·have ht1:decide ((((⟨l.toArray⟩:ByteArray)[t]'hz1).toNat:Int)<48)=true:=by rw [hxe];simp;omega
    have ht2:decide (((⟨l.toArray⟩:ByteArray)[t]'hz1).toNat<48)=true:=by rw [hxe];simp;omega
    have HNO:=ZZ (show digB l=false by
     unfold digB
     rw [show l.all isDig=false from by
      rw [List.all_eq_false];exact⟨(l[t]'htl),List.getElem_mem _,by cases hq:isDig (l[t]'htl) with
       | false=>exact Bool.false_ne_true
       | true=>exact absurd hq (by rw [isDig_iff,←hx];omega)⟩,Bool.and_false])
    clear hge hxe hx h1;go_wp2_with fail;go_ret;exact⟨by rw [HNO.out];rfl,rfl⟩
   ·have ht1:decide ((((⟨l.toArray⟩:ByteArray)[t]'hz1).toNat:Int)<48)=false:=by rw [hxe];simp;omega
    have ht2:decide (((⟨l.toArray⟩:ByteArray)[t]'hz1).toNat<48)=false:=by rw [hxe];simp;omega
    by_cases h2:57<x
    ·have ht3:decide ((57:Int)<(((⟨l.toArray⟩:ByteArray)[t]'hz1).toNat:Int))=true:=by rw [hxe];simp;omega
     have ht4:decide (57<((⟨l.toArray⟩:ByteArray)[t]'hz1).toNat)=true:=by rw [hxe];simp;omega
     have HNO:=ZZ (show digB l=false by
      unfold digB
      rw [show l.all isDig=false from by
       rw [List.all_eq_false];exact⟨(l[t]'htl),List.getElem_mem _,by cases hq:isDig (l[t]'htl) with
       | false=>exact Bool.false_ne_true
       | true=>exact absurd hq (by rw [isDig_iff,←hx];omega)⟩,Bool.and_false])
     clear hge hxe hx h1 h2;go_wp2_with fail;go_ret;exact⟨by rw [HNO.out];rfl,rfl⟩
    ·have ht3:decide ((57:Int)<(((⟨l.toArray⟩:ByteArray)[t]'hz1).toNat:Int))=false:=by rw [hxe];simp;omega
     have ht4:decide (57<((⟨l.toArray⟩:ByteArray)[t]'hz1).toNat)=false:=by rw [hxe];simp;omega
     have HAT:=ZZ (all_take HTL.out HN.out (by rw [isDig_iff,←hx];omega));clear hge hxe hx h1 h2;go_wp2_with fail
     go_roundg (gk - 1)
     case measure=>have:=HZ0.out;omega
     case rel=>exact⟨t+1,by have:=HT.out;have:=HZ0.out;omega,by first|rfl|simp,HAT,rfl⟩
end Go.Proofs.YtoefieefcndlkaaGreatDoor
set_option linter.unusedVariables false
set_option maxRecDepth 100000
set_option maxHeartbeats 64000000
namespace Go.Proofs.YtoefieefcndlkaaGreatDoor
open Go.RowKit
set_option linter.unusedSimpArgs false
theorem zip_len (p q:List Rat) (N:Nat) (hp:p.length≤N) (hq:q.length≤N):(zipA p q).length≤N:=by
 induction p generalizing q N with
 | nil=>exact hq
 | cons a p ih=>
  cases q with
  | nil=>exact hp
  | cons b q=>
   obtain⟨n,rfl⟩:∃n,N=n+1:=⟨N - 1,by simp at hp;omega⟩
   have:=ih q n (by simpa using hp) (by simpa using hq)
   show (zipA p q).length+1≤n+1
   omega
theorem add_len (p q:List Rat) (N:Nat) (hp:p.length≤N) (hq:q.length≤N):(addF p q).length≤N:=Nat.le_trans (trim_le _) (zip_len p q N hp hq)
theorem sub_len (p q:List Rat) (N:Nat) (hp:p.length≤N) (hq:q.length≤N):(subF p q).length≤N:=add_len p _ N hp (Nat.le_trans (scale_len _ _) hq)
theorem div_len1 (p q:List Rat) (hq:trimF q≠[]):(divF p q).1.length≤p.length:=by
 obtain⟨h1,-⟩:=divU_len ((trimF p).length+1) (List.replicate ((trimF p).length+1 - (trimF q).length) 0) (trimF p) (trimF q);have h3:=trim_le p;have h4:=trim_le (divU ((trimF p).length+1) (List.replicate ((trimF p).length+1 - (trimF q).length) 0) (trimF p) (trimF q)).1;rw [h1,List.length_replicate] at h4;have h5:(divF p q).1.length≤(trimF p).length+1 - (trimF q).length:=h4;have h6:=List.length_pos_iff.2 hq;omega
def partsU:Nat→List Rat→List Rat→List (List Rat)
 | 0,_,_=>[]
 | n+1,b,c=>if 1<(trimF b).length then commonF b (subF c (derivF b)) :: partsU n (divF b (commonF b (subF c (derivF b)))).1 (divF (subF c (derivF b)) (commonF b (subF c (derivF b)))).1 else []
def partsF (p:List Rat):List (List Rat):=
 partsU ((monicF p).length+1) (divF (monicF p) (commonF (monicF p) (derivF (monicF p)))).1 (divF (derivF (monicF p)) (commonF (monicF p) (derivF (monicF p)))).1
def partsB (M:Nat):Nat→List Rat→List Rat→Bool
 | 0,b,_=>decide ((trimF b).length≤1)
 | n+1,b,c=>if 1<(trimF b).length then
   smB M b && smB M c && smB M (derivF b) && comOk M b (subF c (derivF b)) && !(trimF (commonF b (subF c (derivF b)))).isEmpty && divOk M b (commonF b (subF c (derivF b))) && divOk M (subF c (derivF b)) (commonF b (subF c (derivF b))) && partsB M n (divF b (commonF b (subF c (derivF b)))).1 (divF (subF c (derivF b)) (commonF b (subF c (derivF b)))).1 else true
def partsOk (M:Nat) (p:List Rat):Bool:=
 smB M p && smB M (monicF p) && comOk M (monicF p) (derivF (monicF p)) && !(trimF (commonF (monicF p) (derivF (monicF p)))).isEmpty && divOk M (monicF p) (commonF (monicF p) (derivF (monicF p))) && divOk M (derivF (monicF p)) (commonF (monicF p) (derivF (monicF p))) && partsB M ((monicF p).length+1) (divF (monicF p) (commonF (monicF p) (derivF (monicF p)))).1 (divF (derivF (monicF p)) (commonF (monicF p) (derivF (monicF p)))).1
def partsE (p:List Rat):List (List Rat) × Int:=if askF p=0 then (partsF p,0) else ([],askF p)
theorem partsU_len (n:Nat) (b c:List Rat):(partsU n b c).length≤n:=by
 induction n generalizing b c with
 | zero=>exact Nat.le_refl _
 | succ n ih=>
  unfold partsU
  split
  ·rw [List.length_cons];exact Nat.succ_le_succ (ih _ _)
  ·exact Nat.zero_le _
theorem ask_cases (p:List Rat):askF p=3∨askF p=8∨askF p=0:=by
 unfold askF;split
 ·exact .inl rfl
 ·split
  ·exact .inr (.inl rfl)
  ·exact .inr (.inr rfl)
theorem parts_p (M:Nat) (hM0:0<M) (hM:M≤137438953472) (vp:Value) (p:List Rat) (hlp:p.length≤50000) (w:World) (hp:Pl w vp p) (hok:askF p=0→partsOk M p=true) (D:List (List Rat) × Int) (hD:partsE p=D):Calls Tryz.prog 13 #[vp] w fun e w'=>∃v1,e=.returned (.tuple #[v1,.int .i64 D.2])∧PlL w' v1 D.1∧Ext w w':=by
 have HP:=ZZ hp;have HLP:=ZZ hlp;have HOK:=ZZ hok;have HM0:=ZZ hM0;have HM:=ZZ hM;have HD:=ZZ hD;clear hp hlp hok hM0 hM hD
 go_enter Tryz.func13,Tryz.ntmps13
 go_wp2_with fail;obtain⟨z,hz⟩:∃z,askF p=z:=⟨_,rfl⟩
 have HZ:=ZZ hz;have hzc:=ask_cases p;rw [hz] at hzc;clear hz;refine(asked_p _ p (by have:=HLP.out;omega) _ HP.out z HZ.out).mono ?_;rintro e w3 ⟨rfl,k3⟩;have K3:=ZZ k3;clear k3
 by_cases h0:z=0
 ·subst h0
  have hok:=HOK.out HZ.out;unfold partsOk at hok
  simp only [Bool.and_eq_true] at hok
  obtain⟨⟨⟨⟨⟨⟨o1,o2⟩,o3⟩,o4⟩,o5⟩,o6⟩,o7⟩:=hok;have HDE:=ZZ (show D=(partsF p,0) from by rw [←HD.out];unfold partsE;rw [if_pos HZ.out]);have HS:=ZZ (sm_of o1);have HSM:=ZZ (sm_of o2);have HC:=ZZ o3;have HNE:=ZZ (ne_of_emp o4);have HD1:=ZZ o5;have HD2:=ZZ o6;have HPB:=ZZ o7;have LM:=ZZ (show (monicF p).length≤50000 from Nat.le_trans (monic_len p) HLP.out);have LD:=ZZ (show (derivF (monicF p)).length≤50000 from Nat.le_trans (deriv_len _) LM.out);have LG:=ZZ (show (commonF (monicF p) (derivF (monicF p))).length≤50000 from common_len _ _ _ LM.out LD.out);clear o1 o2 o3 o4 o5 o6 o7 hzc;go_wp2_with fail;refine(monic_p M (by have:=HM.out;omega) _ p (by have:=HLP.out;omega) _ (HP.out.mono K3.out) HS.out).mono ?_;rintro e w4 ⟨v4,rfl,h4,k4⟩;have H4:=ZZ h4.pl;have K4:=ZZ (ak K3.out k4);clear h4 k4;go_wp2_with fail;refine(deriv_p M HM0.out (by have:=HM.out;omega) _ (monicF p) (by have:=LM.out;omega) _ H4.out HSM.out).mono ?_;rintro e w5 ⟨v5,rfl,h5,k5⟩;have H5:=ZZ h5.pl;have H4a:=ZZ (H4.out.mono k5);have K5:=ZZ (ak K4.out k5);clear h5 k5 H4;go_wp2_with fail;refine(common_p M HM0.out HM.out _ _ (monicF p) (derivF (monicF p)) (by have:=LM.out;omega) (by have:=LD.out;omega) _ H4a.out H5.out HC.out).mono ?_;rintro e w6 ⟨v6,rfl,h6,k6⟩;have H6:=ZZ h6;have H4b:=ZZ (H4a.out.mono k6);have H5b:=ZZ (H5.out.mono k6);have K6:=ZZ (ak K5.out k6);clear h6 k6 H4a H5;go_wp2_with fail
  refine(exact_p M HM0.out HM.out _ _ (monicF p) _ (by have:=LM.out;omega) (by have:=LG.out;omega) _ H4b.out H6.out HNE.out HD1.out).mono ?_;rintro e w7 ⟨v7,rfl,h7,k7⟩;have H7:=ZZ h7;have H5c:=ZZ (H5b.out.mono k7);have H6c:=ZZ (H6.out.mono k7);have K7:=ZZ (ak K6.out k7);clear h7 k7 H4b H5b H6;go_wp2_with fail;refine(exact_p M HM0.out HM.out _ _ (derivF (monicF p)) _ (by have:=LD.out;omega) (by have:=LG.out;omega) _ H5c.out H6c.out HNE.out HD2.out).mono ?_;rintro e w8 ⟨v8,rfl,h8,k8⟩;have H8:=ZZ h8;have H7d:=ZZ (H7.out.mono k8);have K8:=ZZ (ak K7.out k8);clear h8 k8 H5c H6c H7;go_wp2_with fail
  go_loopg [8,9,5] ((monicF p).length+1) (fun k vb vc vo wr=>∃(b c:List Rat) (ls:List (List Rat)),Hid (b.length≤60000)∧Hid (c.length≤60000)∧Hid (ls.length+k=(monicF p).length+1)∧Hid (partsB M k b c=true)∧Hid (ls ++ partsU k b c=partsF p)∧Hid (Pl wr vb b)∧Hid (Pl wr vc c)∧Hid (OwnL wr w.heap.size vo ls)∧Hid (Ext w wr))
  case atStart=>exact⟨_,_,[],ZZ (by have h1:=(div_len (monicF p) (commonF (monicF p) (derivF (monicF p)))).1;have h2:=LM.out;omega),ZZ (by have h1:=(div_len (derivF (monicF p)) (commonF (monicF p) (derivF (monicF p)))).1;have h2:=LD.out;omega),ZZ (Nat.zero_add _),HPB,ZZ rfl,H7d,H8,ZZ (OwnL.nil _ _),K8⟩
  case round=>
   obtain⟨b,c,ls,HBL,HCL,HLS,HB,HU,HPb,HPc,HO,HE⟩:=hrel;rename World=>WR;go_wp2_with fail;refine(deg_q _ b (by have:=HBL.out;omega) _ HPb.out).mono ?_;rintro e wd ⟨rfl,kd⟩;have KD:=ZZ kd;clear kd;obtain⟨m,hm⟩:∃m,(trimF b).length=m:=⟨_,rfl⟩;rw [hm]
   rcases Nat.lt_or_ge 1 m with h1|h1
   ·obtain⟨ko,rfl⟩:∃k,gk=k+1:=⟨gk - 1,by
     rcases Nat.eq_zero_or_pos gk with h|h
     ·subst h
      have h2:decide ((trimF b).length≤1)=true:=HB.out;rw [hm] at h2
      have:=of_decide_eq_true h2
      omega
     ·omega⟩
    have hb:=HB.out;unfold partsB at hb;rw [if_pos (by rw [hm];exact h1)] at hb;have hu:=HU.out;unfold partsU at hu;rw [if_pos (by rw [hm];exact h1)] at hu;obtain⟨rest,hrest⟩:∃r,subF c (derivF b)=r:=⟨_,rfl⟩;rw [hrest] at hb hu;obtain⟨part,hpart⟩:∃r,commonF b rest=r:=⟨_,rfl⟩;rw [hpart] at hb hu
    simp only [Bool.and_eq_true] at hb
    obtain⟨⟨⟨⟨⟨⟨⟨o1,o2⟩,o3⟩,o4⟩,o5⟩,o6⟩,o7⟩,o8⟩:=hb;have P1:=ZZ (sm_of o1);have P2:=ZZ (sm_of o2);have P3:=ZZ (sm_of o3);have P4:=ZZ o4;have P5:=ZZ (ne_of_emp o5);have P6:=ZZ o6;have P7:=ZZ o7;have P8:=ZZ o8;have HR:=ZZ hrest;have HPT:=ZZ hpart;have HU2:=ZZ hu;have LR:=ZZ (show rest.length≤60000 from by rw [←HR.out];exact sub_len _ _ _ HCL.out (Nat.le_trans (deriv_len b) HBL.out));have LP:=ZZ (show part.length≤60000 from by rw [←HPT.out];exact common_len _ _ _ HBL.out LR.out);have q1:decide ((0:Int)<(m:Int) - 1)=true:=decide_eq_true (by omega);have q1':decide ((1:Int)<(m:Int))=true:=decide_eq_true (by omega);clear o1 o2 o3 o4 o5 o6 o7 o8 hrest hpart hu hm h1;have HPb1:=ZZ (HPb.out.mono KD.out);have HPc1:=ZZ (HPc.out.mono KD.out);go_wp2_with fail;refine(deriv_p M HM0.out (by have:=HM.out;omega) _ b (by have:=HBL.out;omega) _ HPb1.out P1.out).mono ?_;rintro e x5 ⟨u5,rfl,h5,k5⟩;have G5:=ZZ h5.pl;have X5:=ZZ (ak KD.out k5);have HPb2:=ZZ (HPb1.out.mono k5);have HPc2:=ZZ (HPc1.out.mono k5);clear h5 k5 HPb1 HPc1;go_wp2_with fail;refine(sub_p M (by have:=HM.out;omega) _ _ c (derivF b) (by have:=HCL.out;omega) (by have h1:=deriv_len b;have:=HBL.out;omega) _ HPc2.out G5.out P2.out P3.out).mono ?_;rintro e x6 ⟨u6,rfl,h6,k6⟩;rw [HR.out] at h6;have G6:=ZZ h6.pl;have X6:=ZZ (ak X5.out k6);have HPb3:=ZZ (HPb2.out.mono k6);clear h6 k6 HPb2 HPc2 G5;go_wp2_with fail;refine(common_p M HM0.out HM.out _ _ b rest (by have:=HBL.out;omega) (by have:=LR.out;omega) _ HPb3.out G6.out P4.out).mono ?_
    rintro e x7 ⟨u7,rfl,h7,k7⟩;rw [HPT.out] at h7;obtain⟨A7,n7,c7,e7,-⟩:=h7.form;subst e7;have X7:=ZZ (ak X6.out k7);have G7:=ZZ (h7.mono (ab x7 (.cells #[.slice A7 n7 c7] 25)));have X8:=ZZ (ak X7.out (ab x7 (.cells #[.slice A7 n7 c7] 25)));have HPb4:=ZZ ((HPb3.out.mono k7).mono (ab x7 (.cells #[.slice A7 n7 c7] 25)));have G6b:=ZZ ((G6.out.mono k7).mono (ab x7 (.cells #[.slice A7 n7 c7] 25)));obtain⟨xs,hown,hxs⟩:=HO.out.mono X8.out;have HOWN:=ZZ hown;have HXS:=ZZ hxs;have C1:=ZZ (cell1_new x7 (.slice A7 n7 c7) 25);clear h7 k7 HPb3 G6 hown hxs
    go_wp2_with (at_builtin;refine wpList_appendG elPl zero_sl rfl _ _ rfl w.heap.size _ ls.length xs rfl HOWN.out ⟨x7.heap.size,0,none⟩ 1 _ [.slice A7 n7 c7] rfl rfl C1.out (by intro u hu;rw [List.mem_singleton.1 hu];rfl) (by intro u hu;rw [List.mem_singleton.1 hu];exact⟨_,_,_,rfl⟩) (by decide) (by have h1:=HLS.out;have h2:=LM.out;omega) (by have h1:=HLS.out;have h2:=LM.out;unfold maxLen;omega) (ak HE.out X8.out).size ?_;intro v' x9 hown9 hgrow)
    have HO9:=ZZ (OwnL.snoc HOWN.out HXS.out G7.out hgrow hown9);have HPb5:=ZZ (HPb4.out.grownS HOWN.out hgrow);have G6c:=ZZ (G6b.out.grownS HOWN.out hgrow);have G7c:=ZZ (G7.out.grownS HOWN.out hgrow);have E9:=ZZ (ext_grownG (ak HE.out X8.out) HOWN.out hgrow);clear hown9 hgrow;go_wp2_with fail;refine(exact_p M HM0.out HM.out _ _ b part (by have:=HBL.out;omega) (by have:=LP.out;omega) _ HPb5.out G7c.out P5.out P6.out).mono ?_;rintro e y1 ⟨t1,rfl,i1,j1⟩;have I1:=ZZ i1;have J1:=ZZ j1;clear i1 j1;go_wp2_with fail;refine(exact_p M HM0.out HM.out _ _ rest part (by have:=LR.out;omega) (by have:=LP.out;omega) _ (G6c.out.mono J1.out) (G7c.out.mono J1.out) P5.out P7.out).mono ?_;rintro e y2 ⟨t2,rfl,i2,j2⟩;have I2:=ZZ i2;have J2:=ZZ j2;clear i2 j2;go_wp2_with fail
    go_roundg ko
    case measure=>omega
    case rel=>exact⟨(divF b part).1,(divF rest part).1,ls ++ [part],ZZ (Nat.le_trans (div_len1 b part P5.out) HBL.out),ZZ (Nat.le_trans (div_len1 rest part P5.out) LR.out),ZZ (by rw [List.length_append,List.length_singleton];have:=HLS.out;omega),P8,ZZ (by rw [List.append_assoc];exact HU2.out),ZZ (I1.out.mono J2.out),I2,ZZ (HO9.out.mono (ak J1.out J2.out)),ZZ (ak E9.out (ak J1.out J2.out))⟩
   ·have HUE:=ZZ (show partsF p=ls from by
     rw [←HU.out]
     cases gk with
     | zero=>exact List.append_nil _
     | succ k=>unfold partsU;rw [if_neg (by rw [hm];omega),List.append_nil])
    have q1:decide ((0:Int)<(m:Int) - 1)=false:=decide_eq_false (by omega);have q1':decide ((1:Int)<(m:Int))=false:=decide_eq_false (by omega);clear hm h1;go_wp2_with fail;refine bodyPost_ret (v:=.tuple #[u5,.int .i64 0]) (by simp [results,Tryz.f13]) rfl ?_;rw [HDE.out];refine⟨_,rfl,?_,ak HE.out KD.out⟩
    show PlL _ _ (partsF p)
    rw [HUE.out];exact(HO.out.mono KD.out).pll
 ·have z0:(z == 0)=false:=beq_eq_false_iff_ne.2 h0
  have z1:(z != 0)=true:=bne_iff_ne.2 h0;have HDE:=ZZ (show D=([],z) from by rw [←HD.out];unfold partsE;rw [if_neg (by rw [HZ.out];exact h0),HZ.out]);have hzc':=ZZ hzc;clear hzc h0;go_wp2_with fail;refine bodyPost_ret (v:=.tuple #[.slice none 0 0,.int .i64 z]) (by simp [results,Tryz.f13]) rfl ?_;rw [HDE.out];exact⟨_,rfl,⟨none,0,rfl,Nat.le_refl _,.inl ⟨rfl,rfl⟩⟩,K3.out⟩
end Go.Proofs.YtoefieefcndlkaaGreatDoor
set_option linter.unusedVariables false
set_option maxRecDepth 100000
set_option maxHeartbeats 64000000
namespace Go.Proofs.YtoefieefcndlkaaGreatDoor
open Go Go.RowKit Go.Shelf
set_option linter.unusedSimpArgs false
attribute [local go_sem] Oper.semAt_some
theorem put6_oth {W:World} {g k:Nat} (a b c d e f:Value) (h:k≠g):(put6 W g a b c d e f).heap[k]?=W.heap[k]?:=by
 unfold put6;rw [Below.heap_setCell _ _ _ _ h,Below.heap_setCell _ _ _ _ h,Below.heap_setCell _ _ _ _ h,Below.heap_setCell _ _ _ _ h,Below.heap_setCell _ _ _ _ h,Below.heap_setCell _ _ _ _ h]
theorem Sp.cb {W W':World} {v:Value} {lo hi:Rat} (h:Sp W v lo hi) (k:Cb W W'):Sp W' v lo hi:=by
 obtain⟨x0,x1,x2,y0,y1,y2,e,h1,h2⟩:=h;exact⟨x0,x1,x2,y0,y1,y2,e,h1.cb k,h2.cb k⟩
end Go.Proofs.YtoefieefcndlkaaGreatDoor
