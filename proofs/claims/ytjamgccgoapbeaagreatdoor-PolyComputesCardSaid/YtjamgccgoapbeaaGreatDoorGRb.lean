/- The reference's natural numbers: sums, differences, products. Printed by gen_rb.py. Plain laws of numbers with sign, numerator and denominator. Plain laws of decimal numerals. -/
import Derived.Test.YtjamgccgoapbeaaGreatDoorGWh
import Derived.Test.YtjamgccgoapbeaaGreatDoorGWj
import Derived.Lib.ItoaNum
set_option linter.unusedVariables false
set_option maxRecDepth 100000
set_option maxHeartbeats 64000000
namespace Go.Proofs.YtjamgccgoapbeaaGreatDoor
open Go.RowKit
theorem info_i64:(Tryz.prog.info? 2).map (fun i=>(i.zero,i.size,i.bytes))=some (some (.int .i64 0),1,8):=by kernel_rfl
theorem mk_digits (n:Nat) (z:Int) (hz:z=(n:Int)) (hn:n≤35184372088832) (w:World):(Instr.makeSlice 60 (.int .i64 z) (.int .i64 z)).run Tryz.prog w=.ok (.slice (some ⟨w.heap.size,0,none⟩) n n) (w.alloc (.cells ((zs n).map i64n).toArray 2)):=by
 subst hz;obtain⟨i,hi,h1,h2,h3⟩:=info_parts info_i64;have h:=run_make (P:=Tryz.prog) w 60 2 i (.int .i64 0) Tryz.underlying60 hi h1 .i64 .i64 (n:Int) (n:Int) (by omega) (Int.le_refl _) (by rw [h3];omega) (by omega);rw [h]
 have e:madeCells (Value.int .i64 0).cells (n*i.size)=((zs n).map i64n).toArray:=by
  rw [h2,Nat.mul_one]
  have:=toList_madeCells_one (.int .i64 0) n
  have h':(madeCells (Value.int .i64 0).cells n).toList=(zs n).map i64n:=by
   rw [show (Value.int .i64 0).cells=#[Value.int .i64 0] from rfl,this];simp [zs,i64n]
  rw [←h']
 simp only [Int.toNat_natCast,e]
def BkI (w:World) (g:Nat) (l:List Nat):Prop:=w.heap[g]?=some (.cells (l.map i64n).toArray 2 (0,0))
theorem BkI.lt {w:World} {g:Nat} {l:List Nat} (h:BkI w g l):g<w.heap.size:=lt_of_block h
theorem BkI.cell {w:World} {g:Nat} {l:List Nat} (h:BkI w g l) (i:Nat) (hi:i<l.length):w.cell? ⟨g,i,none⟩=some (.int .i64 ((l.getD i 0:Nat):Int)):=by
 rw [cell_of_row w g i _ _ _ h];simp [hi,i64n,List.getD_eq_getElem?_getD]
theorem BkI.frozen {w:World} {g:Nat} {l:List Nat} (h:BkI w g l) (i:Nat):w.frozen? ⟨g,i,none⟩=false:=frozen_of_row w g i _ _ h
theorem BkI.new (w:World) (l:List Nat):BkI (w.alloc (.cells (l.map i64n).toArray 2)) w.heap.size l:=heap_alloc_new w _
theorem BkI.set_ {w:World} {g:Nat} {l:List Nat} (h:BkI w g l) (i v:Nat):BkI (w.setCell ⟨g,i,none⟩ (.int .i64 (v:Int))) g (l.set i v):=by
 unfold BkI at h ⊢
 simp only [World.setCell,Array.getElem?_modify,h]
 simp [List.map_set,i64n]
theorem BkI.ext {w w':World} {g:Nat} {l:List Nat} (h:BkI w g l) (k:Ext w w'):BkI w' g l:=(k.block g h.lt).trans h
theorem BkI.cl {w:World} {g:Nat} {l:List Nat} (h:BkI w g l):Cl w (some ⟨g,0,none⟩) (l.map i64n):=
 cl_block h (fun j hj=>by simp [List.getD_eq_getElem?_getD] at hj ⊢;simp [hj])
theorem split30 (s:Nat):∃d c:Nat,d<B30∧d+B30*c=s∧d=s % 1073741824∧c=s / 1073741824:=
 ⟨s % B30,s / B30,Nat.mod_lt _ (by rw [B30_eq];omega),Nat.mod_add_div s B30,rfl,rfl⟩
def Fr (B:Nat) (v:Value):Prop:=∀b,v.ownBlock=some b→B≤b
theorem plus_le (A B:Option Addr) (la lb:List Nat) (ca cb:Nat) (w:World) (n m:Nat) (hn:la.length=n) (hm:lb.length=m) (hA:Cl w A (la.map i64n)) (hB:Cl w B (lb.map i64n)) (hla:∀d ∈ la,d<B30) (hlb:∀d ∈ lb,d<B30) (hle:(m≤n)) (hs:n≤2199023255552):Calls Tryz.prog 137 #[.slice A n ca,.slice B m cb] w fun e w'=>∃v,e=.returned v∧Wr w' v (num B30 la+num B30 lb)∧Ext w w'∧Fr w.heap.size v:=by
 have Hn:Hid (la.length=n):=hn;have Hm:Hid (lb.length=m):=hm;have Hla:=ZZ hla;have Hlb:=ZZ hlb;have hmk:=mk_digits (n+1) ((n:Int)+1) (by omega) (by omega);have hw0:IntKind.i64.wrap ((n:Int)+1)=(n:Int)+1:=IntWalk.i64_in _ (by omega);have hc1:decide ((n:Int)<(m:Int))=false:=by simp;omega
 have hc2:decide (n<m)=false:=by simp;omega
 have Hle:=ZZ hle;clear hn hm hla hlb
 go_enter Tryz.func137,Tryz.ntmps137
 go_wp2_with fail;clear hw0 hc1
 go_loopw [6,7] (fun c i wr=>∃(k cy:Nat) (r:List Nat),k≤n∧i=.int .i64 k∧c=.int .i64 cy∧cy≤1∧r.length=n+1∧(∀d ∈ r,d<B30)∧BkI wr w.heap.size r∧Below w.heap.size w wr∧num B30 (r.take k)+B30 ^ k*cy=num B30 (la.take k)+num B30 (lb.take k)) (fun _ i _=>n - (intOf i).toNat)
 case atStart=>exact⟨0,0,zs (n+1),Nat.zero_le _,rfl,rfl,by omega,zs_length _,zs_lt (by rw [B30_eq];omega) _,BkI.new _ _,ab _ _,by simp⟩
 case round=>
  clear hmk;obtain⟨k,cy,r,hk,rfl,rfl,hcy,hr,hrl,hbk,hbel,hnum⟩:=hrel;have Hr:Hid (r.length=n+1):=hr;have Hrl:=ZZ hrl;have Hbk:Hid (BkI wr w.heap.size r):=hbk;have Hnum:=ZZ hnum;clear hr hrl hnum hbk
  by_cases hlt:k<n
  ·have hci:=Hbk.out.cell k (by rw [Hr.out];omega)
   have hfi:=Hbk.out.frozen k;have hxl:=getD_lt Hla.out (by rw [B30_eq];omega) k;have Htx:=ZZ (num_take_le B30 la k);have Hty:=ZZ (num_take_le B30 lb k);rw [B30_eq] at hxl;obtain⟨ba,oa,rfl,hca'⟩:=hA.i (by rw [Hn.out];omega);have ea:=ar hbel (hca' k (by rw [Hn.out];omega));clear hca' hA;generalize hgx:la.getD k 0=x at *;clear hgx;obtain⟨s1,hs1⟩:∃s1:Nat,s1=cy+x:=⟨_,rfl⟩;have hw1:IntKind.i64.wrap ((cy:Int)+(x:Int))=(s1:Int):=(IntWalk.i64_in _ (by omega)).trans (by omega)
   by_cases hkm:k<m
   ·obtain⟨bb,ob,rfl,hcb'⟩:=hB.i (by rw [Hm.out];omega)
    have eb:=ar hbel (hcb' k (by rw [Hm.out];omega));have hyl:=getD_lt Hlb.out (by rw [B30_eq];omega) k;rw [B30_eq] at hyl;clear hcb' hB;generalize hgy:lb.getD k 0=y at *;clear hgy;obtain⟨s,hs2⟩:∃s:Nat,s=s1+y:=⟨_,rfl⟩;have hw2:IntKind.i64.wrap ((s1:Int)+(y:Int))=(s:Int):=(IntWalk.i64_in _ (by omega)).trans (by omega);obtain⟨d,c',hd,hdc,hd1,hc1'⟩:=split30 s;have hrem:(s:Int) % 1073741824=(d:Int):=by omega
    have hquo:(s:Int) / 1073741824=(c':Int):=by omega
    have hsb:s≤4294967296:=by omega
    have hcb:c'≤4294967296:=by omega
    have hwq:IntKind.i64.wrap (c':Int)=(c':Int):=IntWalk.i64_in _ (by rw [hc1'];omega);have hwd:IntKind.i64.wrap (d:Int)=(d:Int):=IntWalk.i64_in _ (by rw [hd1];omega);have hwk:IntKind.i64.wrap ((k:Int)+1)=((k+1:Nat):Int):=(IntWalk.i64_in _ (by omega)).trans (by omega);have Hc':=ZZ (show c'≤1 by rw [hc1'];omega);have Hst:=ZZ (add_step (s:=d) (c':=c') (B:=B30) Hnum.out (x:=x) (y:=y) (c:=cy) (by rw [hdc];omega));have Hd:=ZZ hd;have Hset:=ZZ (Hbk.out.set_ k d)
    have Hrel:=ZZ (show num B30 ((r.set k d).take (k+1))+B30 ^ (k+1)*c'=num B30 (la.take (k+1))+num B30 (lb.take (k+1)) by
     rw [num_set_take _ _ _ _ (by rw [Hr.out];omega),Htx.out,Hty.out,Nat.pow_succ];exact Hst.out)
    clear hd1 hc1' hdc hd Hst hs2 hs1;go_wp2_with fail
    go_roundw
    case rel=>exact⟨k+1,c',r.set k d,by omega,by first|rfl|go_num,rfl,Hc'.out,by rw [List.length_set,Hr.out],set_lt Hrl.out Hd.out k,Hset.out,hbel.setCell (Nat.le_refl _) _,Hrel.out⟩
    case measure=>simp [intOf];omega
   ·have ey:lb.getD k 0=0:=by rw [List.getD_eq_getElem?_getD,List.getElem?_eq_none (by rw [Hm.out];omega)];rfl
    rw [ey] at Hty;clear ey;obtain⟨s,hs2⟩:∃s:Nat,s=s1:=⟨_,rfl⟩;obtain⟨d,c',hd,hdc,hd1,hc1'⟩:=split30 s;have hrem:(s1:Int) % 1073741824=(d:Int):=by omega
    have hquo:(s1:Int) / 1073741824=(c':Int):=by omega
    have hsb:s1≤4294967296:=by omega
    have hcb:c'≤4294967296:=by omega
    have hwq:IntKind.i64.wrap (c':Int)=(c':Int):=IntWalk.i64_in _ (by rw [hc1'];omega);have hwd:IntKind.i64.wrap (d:Int)=(d:Int):=IntWalk.i64_in _ (by rw [hd1];omega);have hwk:IntKind.i64.wrap ((k:Int)+1)=((k+1:Nat):Int):=(IntWalk.i64_in _ (by omega)).trans (by omega);have Hc':=ZZ (show c'≤1 by rw [hc1'];omega);have Hst:=ZZ (add_step (s:=d) (c':=c') (B:=B30) Hnum.out (x:=x) (y:=0) (c:=cy) (by rw [hdc];omega));have Hd:=ZZ hd;have Hset:=ZZ (Hbk.out.set_ k d)
    have Hrel:=ZZ (show num B30 ((r.set k d).take (k+1))+B30 ^ (k+1)*c'=num B30 (la.take (k+1))+num B30 (lb.take (k+1)) by
     rw [num_set_take _ _ _ _ (by rw [Hr.out];omega),Htx.out,Hty.out,Nat.pow_succ];exact Hst.out)
    clear hd1 hc1' hdc hd Hst hs2 hs1;go_wp2_with fail
    go_roundw
    case rel=>exact⟨k+1,c',r.set k d,by omega,by first|rfl|go_num,rfl,Hc'.out,by rw [List.length_set,Hr.out],set_lt Hrl.out Hd.out k,Hset.out,hbel.setCell (Nat.le_refl _) _,Hrel.out⟩
    case measure=>simp [intOf];omega
  ·have hkn:k=n:=by omega
   subst hkn;have hci:=Hbk.out.cell k (by rw [Hr.out];omega);have hfi:=Hbk.out.frozen k;have Hset:=ZZ (Hbk.out.set_ k cy);have Hcy:Hid (cy<B30):=by show _<_;rw [B30_eq];omega
   have HC:=ZZ Hset.out.cl;go_wp2_with fail;refine(rcut_c _ (r.set k cy) _ _ HC.out (k+1) (by rw [List.length_set,Hr.out]) (by omega) (by omega)).mono ?_;rintro e w2 ⟨rfl,rfl⟩;go_wp2_with fail;go_ret;refine⟨_,rfl,?_,hbel.setCell (Nat.le_refl _) _,(fun b hb=>by cases hb;exact Nat.le_refl _)⟩;have h1:=Hnum.out;rw [num_take_all B30 la (by rw [Hn.out];omega),num_take_all B30 lb (by rw [Hm.out];have:=Hle.out;omega)] at h1;have h2:=rcut_w (set_lt Hrl.out Hcy.out k) HC.out (c:=k+1) (by rw [List.length_set,Hr.out];omega);rw [←h1,←num_set_take B30 r k cy (by rw [Hr.out];omega),num_take_all _ _ (by rw [List.length_set,Hr.out];omega)];exact h2
theorem plus_gt (A B:Option Addr) (la lb:List Nat) (ca cb:Nat) (w:World) (n m:Nat) (hn:la.length=n) (hm:lb.length=m) (hA:Cl w A (la.map i64n)) (hB:Cl w B (lb.map i64n)) (hla:∀d ∈ la,d<B30) (hlb:∀d ∈ lb,d<B30) (hle:(m<n)) (hs:n≤2199023255552):Calls Tryz.prog 137 #[.slice B m cb,.slice A n ca] w fun e w'=>∃v,e=.returned v∧Wr w' v (num B30 la+num B30 lb)∧Ext w w'∧Fr w.heap.size v:=by
 have Hn:Hid (la.length=n):=hn;have Hm:Hid (lb.length=m):=hm;have Hla:=ZZ hla;have Hlb:=ZZ hlb;have hmk:=mk_digits (n+1) ((n:Int)+1) (by omega) (by omega);have hw0:IntKind.i64.wrap ((n:Int)+1)=(n:Int)+1:=IntWalk.i64_in _ (by omega);have hc1:decide ((m:Int)<(n:Int))=true:=by simp;omega
 have hc2:decide (m<n)=true:=by simp;omega
 have Hle:=ZZ hle;clear hn hm hla hlb
 go_enter Tryz.func137,Tryz.ntmps137
 go_wp2_with fail;clear hw0 hc1
 go_loopw [6,7] (fun c i wr=>∃(k cy:Nat) (r:List Nat),k≤n∧i=.int .i64 k∧c=.int .i64 cy∧cy≤1∧r.length=n+1∧(∀d ∈ r,d<B30)∧BkI wr w.heap.size r∧Below w.heap.size w wr∧num B30 (r.take k)+B30 ^ k*cy=num B30 (la.take k)+num B30 (lb.take k)) (fun _ i _=>n - (intOf i).toNat)
 case atStart=>exact⟨0,0,zs (n+1),Nat.zero_le _,rfl,rfl,by omega,zs_length _,zs_lt (by rw [B30_eq];omega) _,BkI.new _ _,ab _ _,by simp⟩
 case round=>
  clear hmk;obtain⟨k,cy,r,hk,rfl,rfl,hcy,hr,hrl,hbk,hbel,hnum⟩:=hrel;have Hr:Hid (r.length=n+1):=hr;have Hrl:=ZZ hrl;have Hbk:Hid (BkI wr w.heap.size r):=hbk;have Hnum:=ZZ hnum;clear hr hrl hnum hbk
  by_cases hlt:k<n
  ·have hci:=Hbk.out.cell k (by rw [Hr.out];omega)
   have hfi:=Hbk.out.frozen k;have hxl:=getD_lt Hla.out (by rw [B30_eq];omega) k;have Htx:=ZZ (num_take_le B30 la k);have Hty:=ZZ (num_take_le B30 lb k);rw [B30_eq] at hxl;obtain⟨ba,oa,rfl,hca'⟩:=hA.i (by rw [Hn.out];omega);have ea:=ar hbel (hca' k (by rw [Hn.out];omega));clear hca' hA;generalize hgx:la.getD k 0=x at *;clear hgx;obtain⟨s1,hs1⟩:∃s1:Nat,s1=cy+x:=⟨_,rfl⟩;have hw1:IntKind.i64.wrap ((cy:Int)+(x:Int))=(s1:Int):=(IntWalk.i64_in _ (by omega)).trans (by omega)
   by_cases hkm:k<m
   ·obtain⟨bb,ob,rfl,hcb'⟩:=hB.i (by rw [Hm.out];omega)
    have eb:=ar hbel (hcb' k (by rw [Hm.out];omega));have hyl:=getD_lt Hlb.out (by rw [B30_eq];omega) k;rw [B30_eq] at hyl;clear hcb' hB;generalize hgy:lb.getD k 0=y at *;clear hgy;obtain⟨s,hs2⟩:∃s:Nat,s=s1+y:=⟨_,rfl⟩;have hw2:IntKind.i64.wrap ((s1:Int)+(y:Int))=(s:Int):=(IntWalk.i64_in _ (by omega)).trans (by omega);obtain⟨d,c',hd,hdc,hd1,hc1'⟩:=split30 s;have hrem:(s:Int) % 1073741824=(d:Int):=by omega
    have hquo:(s:Int) / 1073741824=(c':Int):=by omega
    have hsb:s≤4294967296:=by omega
    have hcb:c'≤4294967296:=by omega
    have hwq:IntKind.i64.wrap (c':Int)=(c':Int):=IntWalk.i64_in _ (by rw [hc1'];omega);have hwd:IntKind.i64.wrap (d:Int)=(d:Int):=IntWalk.i64_in _ (by rw [hd1];omega);have hwk:IntKind.i64.wrap ((k:Int)+1)=((k+1:Nat):Int):=(IntWalk.i64_in _ (by omega)).trans (by omega);have Hc':=ZZ (show c'≤1 by rw [hc1'];omega);have Hst:=ZZ (add_step (s:=d) (c':=c') (B:=B30) Hnum.out (x:=x) (y:=y) (c:=cy) (by rw [hdc];omega));have Hd:=ZZ hd;have Hset:=ZZ (Hbk.out.set_ k d)
    have Hrel:=ZZ (show num B30 ((r.set k d).take (k+1))+B30 ^ (k+1)*c'=num B30 (la.take (k+1))+num B30 (lb.take (k+1)) by
     rw [num_set_take _ _ _ _ (by rw [Hr.out];omega),Htx.out,Hty.out,Nat.pow_succ];exact Hst.out)
    clear hd1 hc1' hdc hd Hst hs2 hs1;go_wp2_with fail
    go_roundw
    case rel=>exact⟨k+1,c',r.set k d,by omega,by first|rfl|go_num,rfl,Hc'.out,by rw [List.length_set,Hr.out],set_lt Hrl.out Hd.out k,Hset.out,hbel.setCell (Nat.le_refl _) _,Hrel.out⟩
    case measure=>simp [intOf];omega
   ·have ey:lb.getD k 0=0:=by rw [List.getD_eq_getElem?_getD,List.getElem?_eq_none (by rw [Hm.out];omega)];rfl
    rw [ey] at Hty;clear ey;obtain⟨s,hs2⟩:∃s:Nat,s=s1:=⟨_,rfl⟩;obtain⟨d,c',hd,hdc,hd1,hc1'⟩:=split30 s;have hrem:(s1:Int) % 1073741824=(d:Int):=by omega
    have hquo:(s1:Int) / 1073741824=(c':Int):=by omega
    have hsb:s1≤4294967296:=by omega
    have hcb:c'≤4294967296:=by omega
    have hwq:IntKind.i64.wrap (c':Int)=(c':Int):=IntWalk.i64_in _ (by rw [hc1'];omega);have hwd:IntKind.i64.wrap (d:Int)=(d:Int):=IntWalk.i64_in _ (by rw [hd1];omega);have hwk:IntKind.i64.wrap ((k:Int)+1)=((k+1:Nat):Int):=(IntWalk.i64_in _ (by omega)).trans (by omega);have Hc':=ZZ (show c'≤1 by rw [hc1'];omega);have Hst:=ZZ (add_step (s:=d) (c':=c') (B:=B30) Hnum.out (x:=x) (y:=0) (c:=cy) (by rw [hdc];omega));have Hd:=ZZ hd;have Hset:=ZZ (Hbk.out.set_ k d)
    have Hrel:=ZZ (show num B30 ((r.set k d).take (k+1))+B30 ^ (k+1)*c'=num B30 (la.take (k+1))+num B30 (lb.take (k+1)) by
     rw [num_set_take _ _ _ _ (by rw [Hr.out];omega),Htx.out,Hty.out,Nat.pow_succ];exact Hst.out)
    clear hd1 hc1' hdc hd Hst hs2 hs1;go_wp2_with fail
    go_roundw
    case rel=>exact⟨k+1,c',r.set k d,by omega,by first|rfl|go_num,rfl,Hc'.out,by rw [List.length_set,Hr.out],set_lt Hrl.out Hd.out k,Hset.out,hbel.setCell (Nat.le_refl _) _,Hrel.out⟩
    case measure=>simp [intOf];omega
  ·have hkn:k=n:=by omega
   subst hkn;have hci:=Hbk.out.cell k (by rw [Hr.out];omega);have hfi:=Hbk.out.frozen k;have Hset:=ZZ (Hbk.out.set_ k cy);have Hcy:Hid (cy<B30):=by show _<_;rw [B30_eq];omega
   have HC:=ZZ Hset.out.cl;go_wp2_with fail;refine(rcut_c _ (r.set k cy) _ _ HC.out (k+1) (by rw [List.length_set,Hr.out]) (by omega) (by omega)).mono ?_;rintro e w2 ⟨rfl,rfl⟩;go_wp2_with fail;go_ret;refine⟨_,rfl,?_,hbel.setCell (Nat.le_refl _) _,(fun b hb=>by cases hb;exact Nat.le_refl _)⟩;have h1:=Hnum.out;rw [num_take_all B30 la (by rw [Hn.out];omega),num_take_all B30 lb (by rw [Hm.out];have:=Hle.out;omega)] at h1;have h2:=rcut_w (set_lt Hrl.out Hcy.out k) HC.out (c:=k+1) (by rw [List.length_set,Hr.out];omega);rw [←h1,←num_set_take B30 r k cy (by rw [Hr.out];omega),num_take_all _ _ (by rw [List.length_set,Hr.out];omega)];exact h2
theorem plus_f (va vb:Value) (m n:Nat) (w:World) (ha:Wr w va m) (hb:Wr w vb n) (sa:Sr m) (sb:Sr n):Calls Tryz.prog 137 #[va,vb] w fun e w'=>∃v,e=.returned v∧Wr w' v (m+n)∧Ext w w'∧Fr w.heap.size v:=by
 obtain⟨A,ca,rfl,hca,hA⟩:=ha;obtain⟨B,cb,rfl,hcb,hB⟩:=hb;unfold Sr at sa sb
 by_cases h:(dr n).length≤(dr m).length
 ·have h:=plus_le A B (dr m) (dr n) ca cb w _ _ rfl rfl hA hB (dr_lt m) (dr_lt n) h (by omega)
  rwa [num_dr,num_dr] at h
 ·have h:=plus_gt B A (dr n) (dr m) cb ca w _ _ rfl rfl hB hA (dr_lt n) (dr_lt m) (by omega) (by omega)
  rw [num_dr,num_dr,Nat.add_comm] at h;exact h
theorem plus_r (va vb:Value) (m n:Nat) (w:World) (ha:Wr w va m) (hb:Wr w vb n) (sa:Sr m) (sb:Sr n):Calls Tryz.prog 137 #[va,vb] w fun e w'=>∃v,e=.returned v∧Wr w' v (m+n)∧Ext w w':=
 (plus_f va vb m n w ha hb sa sb).mono fun e w' ⟨v,h1,h2,h3,_⟩=>⟨v,h1,h2,h3⟩
end Go.Proofs.YtjamgccgoapbeaaGreatDoor
set_option linter.unusedVariables false
set_option maxRecDepth 100000
set_option maxHeartbeats 64000000
namespace Go.Proofs.YtjamgccgoapbeaaGreatDoor
open Go.RowKit
theorem sg_mul (a b:Bool) (n m:Nat):sg a n*sg b m=sg (a != b) (n*m):=by
 cases a <;> cases b <;> simp [sg,Int.neg_mul,Int.mul_neg]
theorem rat_mul (a b:Bool) (n m d e:Nat):rat a n d*rat b m e=rat (a != b) (n*m) (d*e):=by
 unfold rat;rw [Rat.mkRat_mul_mkRat,sg_mul]
theorem sg_mul_nat (a:Bool) (n m:Nat):sg a n*(m:Int)=sg a (n*m):=by
 cases a <;> simp [sg,Int.neg_mul]
theorem sg_add (a:Bool) (n m:Nat):sg a n+sg a m=sg a (n+m):=by
 cases a <;> simp [sg] <;> omega
theorem sg_sub (a:Bool) (n m:Nat) (h:m≤n):sg a n+sg (!a) m=sg a (n - m):=by
 cases a <;> simp [sg] <;> omega
theorem sg_sub' (a:Bool) (n m:Nat) (h:n≤m):sg a n+sg (!a) m=sg (!a) (m - n):=by
 cases a <;> simp [sg] <;> omega
theorem rat_add_same (a:Bool) (n m d e:Nat) (hd:d≠0) (he:e≠0):rat a n d+rat a m e=rat a (n*e+m*d) (d*e):=by
 unfold rat;rw [Rat.mkRat_add_mkRat _ _ hd he,sg_mul_nat,sg_mul_nat,sg_add]
theorem rat_add_more (a:Bool) (n m d e:Nat) (hd:d≠0) (he:e≠0) (h:m*d≤n*e):rat a n d+rat (!a) m e=rat a (n*e - m*d) (d*e):=by
 unfold rat;rw [Rat.mkRat_add_mkRat _ _ hd he,sg_mul_nat,sg_mul_nat,sg_sub a _ _ h]
theorem rat_add_less (a:Bool) (n m d e:Nat) (hd:d≠0) (he:e≠0) (h:n*e≤m*d):rat a n d+rat (!a) m e=rat (!a) (m*d - n*e) (d*e):=by
 unfold rat;rw [Rat.mkRat_add_mkRat _ _ hd he,sg_mul_nat,sg_mul_nat,sg_sub' a _ _ h]
theorem rat_scale (a:Bool) (n d k:Nat) (hk:k≠0):rat a (n*k) (d*k)=rat a n d:=by
 unfold rat;rw [←sg_mul_nat,Rat.mkRat_mul_right hk]
theorem mul_parts (x y:Rat):rat (decide (x.num<0) != decide (y.num<0)) (x.num.natAbs*y.num.natAbs) (x.den*y.den)=x*y:=by
 rw [←rat_mul,rat_self,rat_self]
theorem add_same (x y:Rat) (h:decide (x.num<0)=decide (y.num<0)):rat (decide (x.num<0)) (x.num.natAbs*y.den+y.num.natAbs*x.den) (x.den*y.den)=x+y:=by
 rw [←rat_add_same _ _ _ _ _ x.den_nz y.den_nz,rat_self,h,rat_self]
theorem add_more (x y:Rat) (h:decide (x.num<0)=!decide (y.num<0)) (hl:y.num.natAbs*x.den≤x.num.natAbs*y.den):rat (decide (x.num<0)) (x.num.natAbs*y.den - y.num.natAbs*x.den) (x.den*y.den)=x+y:=by
 rw [←rat_add_more _ _ _ _ _ x.den_nz y.den_nz hl,rat_self];rw [h,Bool.not_not,rat_self]
theorem add_less (x y:Rat) (h:decide (x.num<0)=!decide (y.num<0)) (hl:x.num.natAbs*y.den≤y.num.natAbs*x.den):rat (decide (y.num<0)) (y.num.natAbs*x.den - x.num.natAbs*y.den) (x.den*y.den)=x+y:=by
 have h':decide (y.num<0)=!decide (x.num<0):=by rw [h,Bool.not_not]
 rw [h',←rat_add_less _ _ _ _ _ x.den_nz y.den_nz hl,rat_self,←h',rat_self]
theorem rat_cancel (a b:Bool) (n d e m:Nat) (he:e≠0) (hm:m≠0):rat (a != b) (n*e) (d*m)*rat b m e=rat a n d:=by
 rw [rat_mul,Nat.mul_assoc,Nat.mul_assoc,Nat.mul_comm e m,Nat.mul_comm m e,rat_scale _ _ _ _ (Nat.mul_ne_zero (by omega) (by omega))]
 cases a <;> cases b <;> rfl
theorem div_parts (x y:Rat) (hy:y≠0):rat (decide (x.num<0) != decide (y.num<0)) (x.num.natAbs*y.den) (x.den*y.num.natAbs)=x / y:=by
 have h:=rat_cancel (decide (x.num<0)) (decide (y.num<0)) x.num.natAbs x.den y.den y.num.natAbs y.den_nz (by rw [Ne,Int.natAbs_eq_zero,Rat.num_eq_zero];exact hy);rw [rat_self,rat_self] at h;rw [←h,Rat.mul_div_cancel hy,h]
def cmpQ (x y:Rat):Int:=(x.num*y.den - y.num*x.den).sign
theorem cmpQ_neg (x y:Rat):cmpQ x y = -1↔x<y:=by
 unfold cmpQ;rw [Rat.lt_iff,Int.sign_eq_neg_one_iff_neg];omega
theorem cmpQ_pos (x y:Rat):cmpQ x y=1↔y<x:=by
 unfold cmpQ;rw [Rat.lt_iff,Int.sign_eq_one_iff_pos];omega
theorem cmpQ_zero (x y:Rat):cmpQ x y=0↔x=y:=by
 unfold cmpQ;rw [Rat.eq_iff_mul_eq_mul,Int.sign_eq_zero_iff_zero];omega
theorem rat_tri (x y:Rat):x<y∨x=y∨y<x:=by
 rcases @Rat.le_total x y with h|h
 ·rcases Rat.le_iff_lt_or_eq.1 h with h|h
  ·exact .inl h
  ·exact .inr (.inl h)
 ·rcases Rat.le_iff_lt_or_eq.1 h with h|h
  ·exact .inr (.inr h)
  ·exact .inr (.inl h.symm)
theorem cmpQ_sign (x y:Rat) (h:x.num.sign≠y.num.sign):cmpQ x y=max (-1) (min 1 (x.num.sign - y.num.sign)):=by
 have hx:(0:Int)<x.den:=by have:=x.den_pos;omega
 have hy:(0:Int)<y.den:=by have:=y.den_pos;omega
 have e1:(x.num*y.den).sign=x.num.sign:=by rw [Int.sign_mul,Int.sign_eq_one_of_pos hy,Int.mul_one]
 have e2:(y.num*x.den).sign=y.num.sign:=by rw [Int.sign_mul,Int.sign_eq_one_of_pos hx,Int.mul_one]
 unfold cmpQ;generalize x.num*y.den=a at *;generalize y.num*x.den=b at *;rw [←e1,←e2] at h ⊢
 rcases Int.lt_trichotomy a 0 with ha|ha|ha <;> rcases Int.lt_trichotomy b 0 with hb|hb|hb
 ·rw [Int.sign_eq_neg_one_of_neg ha,Int.sign_eq_neg_one_of_neg hb] at h;exact absurd rfl h
 ·rw [hb,Int.sign_eq_neg_one_of_neg ha,Int.sign_eq_neg_one_of_neg (by omega)];rfl
 ·rw [Int.sign_eq_neg_one_of_neg ha,Int.sign_eq_one_of_pos hb,Int.sign_eq_neg_one_of_neg (by omega)];rfl
 ·rw [ha,Int.sign_eq_neg_one_of_neg hb,Int.sign_eq_one_of_pos (by omega)];rfl
 ·rw [ha,hb] at h;exact absurd rfl h
 ·rw [ha,Int.sign_eq_one_of_pos hb,Int.sign_eq_neg_one_of_neg (by omega)];rfl
 ·rw [Int.sign_eq_one_of_pos ha,Int.sign_eq_neg_one_of_neg hb,Int.sign_eq_one_of_pos (by omega)];rfl
 ·rw [hb,Int.sign_eq_one_of_pos ha,Int.sign_eq_one_of_pos (by omega)];rfl
 ·rw [Int.sign_eq_one_of_pos ha,Int.sign_eq_one_of_pos hb] at h;exact absurd rfl h
theorem clamp_cmp (m n:Nat) (c:Int) (h1:c<0↔m<n) (h2:0<c↔n<m):max (-1) (min 1 c)=((m:Int) - n).sign:=by
 rcases Nat.lt_trichotomy m n with h|h|h
 ·rw [Int.sign_eq_neg_one_of_neg (by omega)];have:=h1.2 h;omega
 ·subst h;have a:¬ c<0:=fun e=>by have:=h1.1 e;omega
  have b:¬ 0<c:=fun e=>by have:=h2.1 e;omega
  rw [show ((m:Int) - m)=0 by omega];simp;omega
 ·rw [Int.sign_eq_one_of_pos (by omega)];have:=h2.2 h;omega
theorem cmpQ_same (x y:Rat) (c:Int) (h:x.num.sign=y.num.sign) (h1:c<0↔x.num.natAbs*y.den<y.num.natAbs*x.den) (h2:0<c↔y.num.natAbs*x.den<x.num.natAbs*y.den):cmpQ x y=x.num.sign*max (-1) (min 1 c):=by
 rw [clamp_cmp _ _ c h1 h2];unfold cmpQ
 rcases Int.lt_trichotomy x.num 0 with hx|hx|hx
 ·have sx:=Int.sign_eq_neg_one_of_neg hx
  have hy:y.num<0:=Int.sign_eq_neg_one_iff_neg.1 (h ▸ sx)
  rw [sx,show (x.num*y.den - y.num*x.den) = -(((x.num.natAbs*y.den:Nat):Int) - ((y.num.natAbs*x.den:Nat):Int)) by
   push_cast
   rw [show (x.num.natAbs:Int) = -x.num by omega,show (y.num.natAbs:Int) = -y.num by omega,Int.neg_mul,Int.neg_mul];omega,Int.sign_neg]
  omega
 ·have sx:x.num.sign=0:=by rw [hx];rfl
  have hy:y.num=0:=Int.sign_eq_zero_iff_zero.1 (h ▸ sx);rw [hx,hy];simp
 ·have sx:=Int.sign_eq_one_of_pos hx
  have hy:0<y.num:=Int.sign_eq_one_iff_pos.1 (h ▸ sx)
  rw [sx,show (x.num*y.den - y.num*x.den)=(((x.num.natAbs*y.den:Nat):Int) - ((y.num.natAbs*x.den:Nat):Int)) by
   push_cast
   rw [show (x.num.natAbs:Int)=x.num by omega,show (y.num.natAbs:Int)=y.num by omega]]
  omega
end Go.Proofs.YtjamgccgoapbeaaGreatDoor
set_option linter.unusedVariables false
set_option maxRecDepth 100000
set_option maxHeartbeats 64000000
namespace Go.Proofs.YtjamgccgoapbeaaGreatDoor
open Go.RowKit Go.Lib
def natOf (l:List UInt8):Nat:=l.foldl (fun n c=>10*n+(c.toNat - 48)) 0
def isDig (c:UInt8):Bool:=decide (48≤c.toNat) && decide (c.toNat≤57)
theorem isDig_iff (c:UInt8):isDig c=true↔48≤c.toNat∧c.toNat≤57:=by
 unfold isDig;simp
theorem natOf_nil:natOf []=0:=rfl
theorem natOf_snoc (l:List UInt8) (c:UInt8):natOf (l ++ [c])=10*natOf l+(c.toNat - 48):=by
 simp [natOf,List.foldl_append]
theorem natOf_acc (l:List UInt8) (a:Nat):l.foldl (fun n c=>10*n+(c.toNat - 48)) a=a*10 ^ l.length+natOf l:=by
 induction l generalizing a with
 | nil=>simp [natOf]
 | cons c l ih=>
  unfold natOf
  simp only [List.foldl_cons,List.length_cons]
  rw [ih,ih (10*0+(c.toNat - 48)),Nat.pow_succ,Nat.mul_zero,Nat.zero_add,Nat.add_mul]
  have:10*a*10 ^ l.length=a*(10 ^ l.length*10):=by rw [Nat.mul_comm 10 a,Nat.mul_assoc,Nat.mul_comm 10]
  omega
theorem natOf_append (l m:List UInt8):natOf (l ++ m)=natOf l*10 ^ m.length+natOf m:=by
 unfold natOf;rw [List.foldl_append];exact natOf_acc m _
theorem natOf_cons (c:UInt8) (l:List UInt8):natOf (c :: l)=(c.toNat - 48)*10 ^ l.length+natOf l:=by
 have:=natOf_append [c] l
 rw [List.singleton_append] at this;rw [this];simp [natOf]
theorem natOf_lt (l:List UInt8) (h:∀c ∈ l,isDig c=true):natOf l<10 ^ l.length:=by
 induction l with
 | nil=>simp [natOf]
 | cons c l ih=>
  rw [natOf_cons,List.length_cons,Nat.pow_succ];have h1:=ih fun d hd=>h d (List.mem_cons_of_mem _ hd);have h2:=(isDig_iff c).1 (h c (List.mem_cons_self ..));have h3:(c.toNat - 48)*10 ^ l.length≤9*10 ^ l.length:=Nat.mul_le_mul_right _ (by omega);omega
theorem dchar (d:Nat) (h:d<10):(UInt8.ofNat (48+d)).toNat=48+d:=by
 rw [UInt8.toNat_ofNat'];exact Nat.mod_eq_of_lt (by omega)
theorem chard (c:UInt8) (h:isDig c=true):UInt8.ofNat (48+(c.toNat - 48))=c:=by
 have h2:=(isDig_iff c).1 h
 apply UInt8.toNat_inj.1
 rw [dchar _ (by omega)];omega
theorem natOf_dec (n:Nat):natOf (decDigits n)=n:=by
 induction n using Nat.strongRecOn with
 | _ n ih=>
  by_cases h:n<10
  ·rw [decDigits,dif_pos h];(simp [natOf];omega)
  ·rw [decDigits,dif_neg h,natOf_snoc,ih _ (by omega),dchar _ (by omega)];omega
theorem dec_ne_nil (n:Nat):decDigits n≠[]:=by
 rw [decDigits];split <;> simp
theorem dec_isDig (n:Nat):∀c ∈ decDigits n,isDig c=true:=by
 induction n using Nat.strongRecOn with
 | _ n ih=>
  intro c hc
  by_cases h:n<10
  ·rw [decDigits,dif_pos h] at hc
   simp only [List.mem_singleton] at hc
   rw [hc,isDig_iff,dchar _ h];omega
  ·rw [decDigits,dif_neg h] at hc
   rcases List.mem_append.1 hc with hc|hc
   ·exact ih _ (by omega) c hc
   ·simp only [List.mem_singleton] at hc
    rw [hc,isDig_iff,dchar _ (by omega)];omega
theorem natOf_pos (l:List UInt8) (h:∀c ∈ l,isDig c=true) (h0:l≠[]) (h1:l.head?≠some 48):0<natOf l:=by
 cases l with
 | nil=>exact absurd rfl h0
 | cons c l=>
  rw [natOf_cons];have h2:=(isDig_iff c).1 (h c (List.mem_cons_self ..))
  have h3:c.toNat≠48:=fun e=>h1 (by
   rw [List.head?_cons];congr 1;apply UInt8.toNat_inj.1;rw [e];rfl)
  have h4:0<10 ^ l.length:=Nat.pow_pos (by decide);have h5:1*10 ^ l.length≤(c.toNat - 48)*10 ^ l.length:=Nat.mul_le_mul_right _ (by omega);omega
theorem dec_natOf (l:List UInt8) (h:∀c ∈ l,isDig c=true) (h0:l≠[]) (h1:l.head?≠some 48∨l.length=1):decDigits (natOf l)=l:=by
 obtain⟨k,hk⟩:∃k,l.length=k:=⟨_,rfl⟩
 induction k using Nat.strongRecOn generalizing l with
 | _ k ih=>
  have hs:=List.dropLast_concat_getLast h0;obtain⟨m,hm⟩:∃m,l.dropLast=m:=⟨_,rfl⟩;obtain⟨c,hc⟩:∃c,l.getLast h0=c:=⟨_,rfl⟩;rw [hm,hc] at hs;subst hs;have hcd:=h c (by simp);have h2:=(isDig_iff c).1 hcd;rw [natOf_snoc]
  by_cases hmn:m=[]
  ·subst hmn
   rw [natOf_nil,decDigits,dif_pos (by omega)]
   simp only [Nat.mul_zero,Nat.zero_add,List.nil_append]
   rw [chard c hcd]
  ·have h3:(m ++ [c]).head?=m.head?:=by
    cases m with
    | nil=>exact absurd rfl hmn
    | cons a m=>rfl
   have hml:0<m.length:=List.length_pos_iff.2 hmn
   have h4:m.head?≠some 48:=by
    rcases h1 with h1|h1
    ·rw [←h3];exact h1
    ·simp at h1;exact absurd h1 hmn
   have hd:∀x ∈ m,isDig x=true:=fun x hx=>h x (by simp [hx]);have h5:=natOf_pos m hd hmn h4;rw [decDigits,dif_neg (by omega)];have e1:(10*natOf m+(c.toNat - 48)) / 10=natOf m:=by omega
   have e2:(10*natOf m+(c.toNat - 48)) % 10=c.toNat - 48:=by omega
   rw [e1,e2,chard c hcd];have hk':m.length<k:=by simp at hk;omega
   rw [ih m.length hk' m hd hmn (Or.inl h4) rfl]
theorem dec_head (n:Nat) (h:n≠0):(decDigits n).head?≠some 48:=by
 induction n using Nat.strongRecOn with
 | _ n ih=>
  by_cases hl:n<10
  ·rw [decDigits,dif_pos hl,List.head?_cons]
   intro e
   have:=congrArg UInt8.toNat (Option.some.inj e)
   rw [dchar _ hl] at this;have h9:(48:UInt8).toNat=48:=rfl;omega
  ·rw [decDigits,dif_neg hl]
   have h3:=dec_ne_nil (n / 10)
   cases hq:decDigits (n / 10) with
   | nil=>exact absurd hq h3
   | cons a m=>
    have:=ih (n / 10) (by omega) (by omega)
    rw [hq] at this;exact this
theorem dec_zero:decDigits 0=[48]:=by rw [decDigits,dif_pos (by decide)];rfl
def padTo (k r:Nat):List UInt8:=List.replicate (k - (decDigits r).length) 48 ++ decDigits r
theorem dec_length_le (k r:Nat) (hk:0<k) (hr:r<10 ^ k):(decDigits r).length≤k:=by
 rcases Nat.lt_or_ge k (decDigits r).length with h|h
 ·exfalso
  have hr0:r≠0:=by
   intro e;subst e;rw [dec_zero] at h;simp at h;omega
  have hd:=dec_isDig r;have hh:=dec_head r hr0;have hn:=natOf_dec r
  cases hq:decDigits r with
  | nil=>exact dec_ne_nil r hq
  | cons c m=>
   rw [hq] at h hd hh hn;rw [natOf_cons] at hn;have h2:=(isDig_iff c).1 (hd c (List.mem_cons_self ..))
   have h3:c.toNat≠48:=fun e=>hh (by
    rw [List.head?_cons];congr 1;apply UInt8.toNat_inj.1;rw [e];rfl)
   have h5:1*10 ^ m.length≤(c.toNat - 48)*10 ^ m.length:=Nat.mul_le_mul_right _ (by omega);have h6:10 ^ k≤10 ^ m.length:=Nat.pow_le_pow_right (by decide) (by simp at h;omega);omega
 ·exact h
theorem padTo_length (k r:Nat) (hk:0<k) (hr:r<10 ^ k):(padTo k r).length=k:=by
 have:=dec_length_le k r hk hr
 simp [padTo];omega
theorem natOf_zeros (k:Nat) (l:List UInt8):natOf (List.replicate k 48 ++ l)=natOf l:=by
 induction k with
 | zero=>simp
 | succ k ih=>rw [List.replicate_succ,List.cons_append,natOf_cons,ih];simp
theorem padTo_isDig (k r:Nat):∀c ∈ padTo k r,isDig c=true:=by
 intro c hc
 rcases List.mem_append.1 hc with h|h
 ·rw [List.mem_replicate] at h
  rw [h.2];rfl
 ·exact dec_isDig r c h
theorem dec_split (k q r:Nat) (hk:0<k) (hq:0<q) (hr:r<10 ^ k):decDigits (q*10 ^ k+r)=decDigits q ++ padTo k r:=by
 have h1:natOf (decDigits q ++ padTo k r)=q*10 ^ k+r:=by
  rw [natOf_append,natOf_dec,padTo_length k r hk hr];unfold padTo;rw [natOf_zeros,natOf_dec]
 rw [←h1];have hn:=dec_ne_nil q;refine dec_natOf _ ?_ (by simp [hn]) (Or.inl ?_)
 ·intro c hc
  rcases List.mem_append.1 hc with h|h
  ·exact dec_isDig q c h
  ·exact padTo_isDig k r c h
 ·cases hd:decDigits q with
  | nil=>exact absurd hd hn
  | cons a m=>
   have:=dec_head q (by omega)
   rw [hd] at this;exact this
def txt (q:Rat):List UInt8:=(if q.num<0 then [45] else []) ++ decDigits q.num.natAbs ++ (if q.den=1 then [] else 47 :: decDigits q.den)
end Go.Proofs.YtjamgccgoapbeaaGreatDoor
