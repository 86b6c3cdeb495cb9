/- The reference's natural numbers: sums, differences, products. Printed by gen_rb.py. Numbers: the product. Numbers: negative, size, sign. -/
import Derived.Test.YtaaoleakkaloeaaGreatDoorGWf
import Derived.Test.YtaaoleakkaloeaaGreatDoorGRat
import Derived.Deep.RegionHeld3
set_option linter.unusedVariables false
set_option maxRecDepth 100000
set_option maxHeartbeats 64000000
namespace Go.Proofs.YtaaoleakkaloeaaGreatDoor
open Go.RowKit
theorem info_i64:(Tryz.prog.info? 2).map (fun i=>(i.zero,i.size,i.bytes))=some (some (.int .i64 0),1,8):=by kernel_rfl
theorem mk_digits (n:Nat) (z:Int) (hz:z=(n:Int)) (hn:n≤35184372088832) (w:World):(Instr.makeSlice 67 (.int .i64 z) (.int .i64 z)).run Tryz.prog w=.ok (.slice (some ⟨w.heap.size,0,none⟩) n n) (w.alloc (.cells ((zs n).map i64n).toArray 2)):=by
 subst hz;obtain⟨i,hi,h1,h2,h3⟩:=info_parts info_i64;have h:=run_make (P:=Tryz.prog) w 67 2 i (.int .i64 0) Tryz.underlying67 hi h1 .i64 .i64 (n:Int) (n:Int) (by omega) (Int.le_refl _) (by rw [h3];omega) (by omega);rw [h]
 have e:madeCells (Value.int .i64 0).cells (n*i.size)=((zs n).map i64n).toArray:=by
  rw [h2,Nat.mul_one]
  have:=toList_madeCells_one (.int .i64 0) n
  have h':(madeCells (Value.int .i64 0).cells n).toList=(zs n).map i64n:=by
   rw [show (Value.int .i64 0).cells=#[Value.int .i64 0] from rfl,this];simp [zs,i64n]
  rw [←h']
 simp only [Int.toNat_natCast,e]
def BkI (w:World) (g:Nat) (l:List Nat):Prop:=w.heap[g]?=some (.cells (l.map i64n).toArray 2 (0,0))
theorem BkI.lt {w:World} {g:Nat} {l:List Nat} (h:BkI w g l):g<w.heap.size:=lt_of_block h
theorem BkI.cell {w:World} {g:Nat} {l:List Nat} (h:BkI w g l) (i:Nat) (hi:i<l.length):w.cell? ⟨g,i,none⟩=some (.int .i64 ((l.getD i 0:Nat):Int)):=by
 rw [cell_of_row w g i _ _ _ h];simp [hi,i64n,List.getD_eq_getElem?_getD]
theorem BkI.frozen {w:World} {g:Nat} {l:List Nat} (h:BkI w g l) (i:Nat):w.frozen? ⟨g,i,none⟩=false:=frozen_of_row w g i _ _ h
theorem BkI.new (w:World) (l:List Nat):BkI (w.alloc (.cells (l.map i64n).toArray 2)) w.heap.size l:=heap_alloc_new w _
theorem BkI.set_ {w:World} {g:Nat} {l:List Nat} (h:BkI w g l) (i v:Nat):BkI (w.setCell ⟨g,i,none⟩ (.int .i64 (v:Int))) g (l.set i v):=by
 unfold BkI at h ⊢
 simp only [World.setCell,Array.getElem?_modify,h]
 simp [List.map_set,i64n]
theorem BkI.ext {w w':World} {g:Nat} {l:List Nat} (h:BkI w g l) (k:Ext w w'):BkI w' g l:=(k.block g h.lt).trans h
theorem BkI.cl {w:World} {g:Nat} {l:List Nat} (h:BkI w g l):Cl w (some ⟨g,0,none⟩) (l.map i64n):=
 cl_block h (fun j hj=>by simp [List.getD_eq_getElem?_getD] at hj ⊢;simp [hj])
theorem split30 (s:Nat):∃d c:Nat,d<B30∧d+B30*c=s∧d=s % 1073741824∧c=s / 1073741824:=
 ⟨s % B30,s / B30,Nat.mod_lt _ (by rw [B30_eq];omega),Nat.mod_add_div s B30,rfl,rfl⟩
def Fr (B:Nat) (v:Value):Prop:=∀b,v.ownBlock=some b→B≤b
theorem plus_le (A B:Option Addr) (la lb:List Nat) (ca cb:Nat) (w:World) (n m:Nat) (hn:la.length=n) (hm:lb.length=m) (hA:Cl w A (la.map i64n)) (hB:Cl w B (lb.map i64n)) (hla:∀d ∈ la,d<B30) (hlb:∀d ∈ lb,d<B30) (hle:(m≤n)) (hs:n≤2199023255552):Calls Tryz.prog 107 #[.slice A n ca,.slice B m cb] w fun e w'=>∃v,e=.returned v∧Wr w' v (num B30 la+num B30 lb)∧Ext w w'∧Fr w.heap.size v:=by
 have Hn:Hid (la.length=n):=hn;have Hm:Hid (lb.length=m):=hm;have Hla:=ZZ hla;have Hlb:=ZZ hlb;have hmk:=mk_digits (n+1) ((n:Int)+1) (by omega) (by omega);have hw0:IntKind.i64.wrap ((n:Int)+1)=(n:Int)+1:=IntWalk.i64_in _ (by omega);have hc1:decide ((n:Int)<(m:Int))=false:=by simp;omega
 have hc2:decide (n<m)=false:=by simp;omega
 have Hle:=ZZ hle;clear hn hm hla hlb
 go_enter Tryz.func107,Tryz.ntmps107
 go_wp2_with fail;clear hw0 hc1
 go_loopw [6,7] (fun c i wr=>∃(k cy:Nat) (r:List Nat),k≤n∧i=.int .i64 k∧c=.int .i64 cy∧cy≤1∧r.length=n+1∧(∀d ∈ r,d<B30)∧BkI wr w.heap.size r∧Below w.heap.size w wr∧num B30 (r.take k)+B30 ^ k*cy=num B30 (la.take k)+num B30 (lb.take k)) (fun _ i _=>n - (intOf i).toNat)
 case atStart=>exact⟨0,0,zs (n+1),Nat.zero_le _,rfl,rfl,by omega,zs_length _,zs_lt (by rw [B30_eq];omega) _,BkI.new _ _,ac _ _,by simp⟩
 case round=>
  clear hmk;obtain⟨k,cy,r,hk,rfl,rfl,hcy,hr,hrl,hbk,hbel,hnum⟩:=hrel;have Hr:Hid (r.length=n+1):=hr;have Hrl:=ZZ hrl;have Hbk:Hid (BkI wr w.heap.size r):=hbk;have Hnum:=ZZ hnum;clear hr hrl hnum hbk
  by_cases hlt:k<n
  ·have hci:=Hbk.out.cell k (by rw [Hr.out];omega)
   have hfi:=Hbk.out.frozen k;have hxl:=getD_lt Hla.out (by rw [B30_eq];omega) k;have Htx:=ZZ (num_take_le B30 la k);have Hty:=ZZ (num_take_le B30 lb k);rw [B30_eq] at hxl;obtain⟨ba,oa,rfl,hca'⟩:=hA.i (by rw [Hn.out];omega);have ea:=ao hbel (hca' k (by rw [Hn.out];omega));clear hca' hA;generalize hgx:la.getD k 0=x at *;clear hgx;obtain⟨s1,hs1⟩:∃s1:Nat,s1=cy+x:=⟨_,rfl⟩;have hw1:IntKind.i64.wrap ((cy:Int)+(x:Int))=(s1:Int):=(IntWalk.i64_in _ (by omega)).trans (by omega)
   by_cases hkm:k<m
   ·obtain⟨bb,ob,rfl,hcb'⟩:=hB.i (by rw [Hm.out];omega)
    have eb:=ao hbel (hcb' k (by rw [Hm.out];omega));have hyl:=getD_lt Hlb.out (by rw [B30_eq];omega) k;rw [B30_eq] at hyl;clear hcb' hB;generalize hgy:lb.getD k 0=y at *;clear hgy;obtain⟨s,hs2⟩:∃s:Nat,s=s1+y:=⟨_,rfl⟩;have hw2:IntKind.i64.wrap ((s1:Int)+(y:Int))=(s:Int):=(IntWalk.i64_in _ (by omega)).trans (by omega);obtain⟨d,c',hd,hdc,hd1,hc1'⟩:=split30 s;have hrem:(s:Int) % 1073741824=(d:Int):=by omega
    have hquo:(s:Int) / 1073741824=(c':Int):=by omega
    have hsb:s≤4294967296:=by omega
    have hcb:c'≤4294967296:=by omega
    have hwq:IntKind.i64.wrap (c':Int)=(c':Int):=IntWalk.i64_in _ (by rw [hc1'];omega);have hwd:IntKind.i64.wrap (d:Int)=(d:Int):=IntWalk.i64_in _ (by rw [hd1];omega);have hwk:IntKind.i64.wrap ((k:Int)+1)=((k+1:Nat):Int):=(IntWalk.i64_in _ (by omega)).trans (by omega);have Hc':=ZZ (show c'≤1 by rw [hc1'];omega);have Hst:=ZZ (add_step (s:=d) (c':=c') (B:=B30) Hnum.out (x:=x) (y:=y) (c:=cy) (by rw [hdc];omega));have Hd:=ZZ hd;have Hset:=ZZ (Hbk.out.set_ k d)
    have Hrel:=ZZ (show num B30 ((r.set k d).take (k+1))+B30 ^ (k+1)*c'=num B30 (la.take (k+1))+num B30 (lb.take (k+1)) by
     rw [num_set_take _ _ _ _ (by rw [Hr.out];omega),Htx.out,Hty.out,Nat.pow_succ];exact Hst.out)
    clear hd1 hc1' hdc hd Hst hs2 hs1;go_wp2_with fail
    go_roundw
    case rel=>exact⟨k+1,c',r.set k d,by omega,by first|rfl|go_num,rfl,Hc'.out,by rw [List.length_set,Hr.out],set_lt Hrl.out Hd.out k,Hset.out,hbel.setCell (Nat.le_refl _) _,Hrel.out⟩
    case measure=>simp [intOf];omega
   ·have ey:lb.getD k 0=0:=by rw [List.getD_eq_getElem?_getD,List.getElem?_eq_none (by rw [Hm.out];omega)];rfl
    rw [ey] at Hty;clear ey;obtain⟨s,hs2⟩:∃s:Nat,s=s1:=⟨_,rfl⟩;obtain⟨d,c',hd,hdc,hd1,hc1'⟩:=split30 s;have hrem:(s1:Int) % 1073741824=(d:Int):=by omega
    have hquo:(s1:Int) / 1073741824=(c':Int):=by omega
    have hsb:s1≤4294967296:=by omega
    have hcb:c'≤4294967296:=by omega
    have hwq:IntKind.i64.wrap (c':Int)=(c':Int):=IntWalk.i64_in _ (by rw [hc1'];omega);have hwd:IntKind.i64.wrap (d:Int)=(d:Int):=IntWalk.i64_in _ (by rw [hd1];omega);have hwk:IntKind.i64.wrap ((k:Int)+1)=((k+1:Nat):Int):=(IntWalk.i64_in _ (by omega)).trans (by omega);have Hc':=ZZ (show c'≤1 by rw [hc1'];omega);have Hst:=ZZ (add_step (s:=d) (c':=c') (B:=B30) Hnum.out (x:=x) (y:=0) (c:=cy) (by rw [hdc];omega));have Hd:=ZZ hd;have Hset:=ZZ (Hbk.out.set_ k d)
    have Hrel:=ZZ (show num B30 ((r.set k d).take (k+1))+B30 ^ (k+1)*c'=num B30 (la.take (k+1))+num B30 (lb.take (k+1)) by
     rw [num_set_take _ _ _ _ (by rw [Hr.out];omega),Htx.out,Hty.out,Nat.pow_succ];exact Hst.out)
    clear hd1 hc1' hdc hd Hst hs2 hs1;go_wp2_with fail
    go_roundw
    case rel=>exact⟨k+1,c',r.set k d,by omega,by first|rfl|go_num,rfl,Hc'.out,by rw [List.length_set,Hr.out],set_lt Hrl.out Hd.out k,Hset.out,hbel.setCell (Nat.le_refl _) _,Hrel.out⟩
    case measure=>simp [intOf];omega
  ·have hkn:k=n:=by omega
   subst hkn;have hci:=Hbk.out.cell k (by rw [Hr.out];omega);have hfi:=Hbk.out.frozen k;have Hset:=ZZ (Hbk.out.set_ k cy);have Hcy:Hid (cy<B30):=by show _<_;rw [B30_eq];omega
   have HC:=ZZ Hset.out.cl;go_wp2_with fail;refine(rcut_c _ (r.set k cy) _ _ HC.out (k+1) (by rw [List.length_set,Hr.out]) (by omega) (by omega)).mono ?_;rintro e w2 ⟨rfl,rfl⟩;go_wp2_with fail;go_ret;refine⟨_,rfl,?_,hbel.setCell (Nat.le_refl _) _,(fun b hb=>by cases hb;exact Nat.le_refl _)⟩;have h1:=Hnum.out;rw [num_take_all B30 la (by rw [Hn.out];omega),num_take_all B30 lb (by rw [Hm.out];have:=Hle.out;omega)] at h1;have h2:=rcut_w (set_lt Hrl.out Hcy.out k) HC.out (c:=k+1) (by rw [List.length_set,Hr.out];omega);rw [←h1,←num_set_take B30 r k cy (by rw [Hr.out];omega),num_take_all _ _ (by rw [List.length_set,Hr.out];omega)];exact h2
theorem plus_gt (A B:Option Addr) (la lb:List Nat) (ca cb:Nat) (w:World) (n m:Nat) (hn:la.length=n) (hm:lb.length=m) (hA:Cl w A (la.map i64n)) (hB:Cl w B (lb.map i64n)) (hla:∀d ∈ la,d<B30) (hlb:∀d ∈ lb,d<B30) (hle:(m<n)) (hs:n≤2199023255552):Calls Tryz.prog 107 #[.slice B m cb,.slice A n ca] w fun e w'=>∃v,e=.returned v∧Wr w' v (num B30 la+num B30 lb)∧Ext w w'∧Fr w.heap.size v:=by
 have Hn:Hid (la.length=n):=hn;have Hm:Hid (lb.length=m):=hm;have Hla:=ZZ hla;have Hlb:=ZZ hlb;have hmk:=mk_digits (n+1) ((n:Int)+1) (by omega) (by omega);have hw0:IntKind.i64.wrap ((n:Int)+1)=(n:Int)+1:=IntWalk.i64_in _ (by omega);have hc1:decide ((m:Int)<(n:Int))=true:=by simp;omega
 have hc2:decide (m<n)=true:=by simp;omega
 have Hle:=ZZ hle;clear hn hm hla hlb
 go_enter Tryz.func107,Tryz.ntmps107
 go_wp2_with fail;clear hw0 hc1
 go_loopw [6,7] (fun c i wr=>∃(k cy:Nat) (r:List Nat),k≤n∧i=.int .i64 k∧c=.int .i64 cy∧cy≤1∧r.length=n+1∧(∀d ∈ r,d<B30)∧BkI wr w.heap.size r∧Below w.heap.size w wr∧num B30 (r.take k)+B30 ^ k*cy=num B30 (la.take k)+num B30 (lb.take k)) (fun _ i _=>n - (intOf i).toNat)
 case atStart=>exact⟨0,0,zs (n+1),Nat.zero_le _,rfl,rfl,by omega,zs_length _,zs_lt (by rw [B30_eq];omega) _,BkI.new _ _,ac _ _,by simp⟩
 case round=>
  clear hmk;obtain⟨k,cy,r,hk,rfl,rfl,hcy,hr,hrl,hbk,hbel,hnum⟩:=hrel;have Hr:Hid (r.length=n+1):=hr;have Hrl:=ZZ hrl;have Hbk:Hid (BkI wr w.heap.size r):=hbk;have Hnum:=ZZ hnum;clear hr hrl hnum hbk
  by_cases hlt:k<n
  ·have hci:=Hbk.out.cell k (by rw [Hr.out];omega)
   have hfi:=Hbk.out.frozen k;have hxl:=getD_lt Hla.out (by rw [B30_eq];omega) k;have Htx:=ZZ (num_take_le B30 la k);have Hty:=ZZ (num_take_le B30 lb k);rw [B30_eq] at hxl;obtain⟨ba,oa,rfl,hca'⟩:=hA.i (by rw [Hn.out];omega);have ea:=ao hbel (hca' k (by rw [Hn.out];omega));clear hca' hA;generalize hgx:la.getD k 0=x at *;clear hgx;obtain⟨s1,hs1⟩:∃s1:Nat,s1=cy+x:=⟨_,rfl⟩;have hw1:IntKind.i64.wrap ((cy:Int)+(x:Int))=(s1:Int):=(IntWalk.i64_in _ (by omega)).trans (by omega)
   by_cases hkm:k<m
   ·obtain⟨bb,ob,rfl,hcb'⟩:=hB.i (by rw [Hm.out];omega)
    have eb:=ao hbel (hcb' k (by rw [Hm.out];omega));have hyl:=getD_lt Hlb.out (by rw [B30_eq];omega) k;rw [B30_eq] at hyl;clear hcb' hB;generalize hgy:lb.getD k 0=y at *;clear hgy;obtain⟨s,hs2⟩:∃s:Nat,s=s1+y:=⟨_,rfl⟩;have hw2:IntKind.i64.wrap ((s1:Int)+(y:Int))=(s:Int):=(IntWalk.i64_in _ (by omega)).trans (by omega);obtain⟨d,c',hd,hdc,hd1,hc1'⟩:=split30 s;have hrem:(s:Int) % 1073741824=(d:Int):=by omega
    have hquo:(s:Int) / 1073741824=(c':Int):=by omega
    have hsb:s≤4294967296:=by omega
    have hcb:c'≤4294967296:=by omega
    have hwq:IntKind.i64.wrap (c':Int)=(c':Int):=IntWalk.i64_in _ (by rw [hc1'];omega);have hwd:IntKind.i64.wrap (d:Int)=(d:Int):=IntWalk.i64_in _ (by rw [hd1];omega);have hwk:IntKind.i64.wrap ((k:Int)+1)=((k+1:Nat):Int):=(IntWalk.i64_in _ (by omega)).trans (by omega);have Hc':=ZZ (show c'≤1 by rw [hc1'];omega);have Hst:=ZZ (add_step (s:=d) (c':=c') (B:=B30) Hnum.out (x:=x) (y:=y) (c:=cy) (by rw [hdc];omega));have Hd:=ZZ hd;have Hset:=ZZ (Hbk.out.set_ k d)
    have Hrel:=ZZ (show num B30 ((r.set k d).take (k+1))+B30 ^ (k+1)*c'=num B30 (la.take (k+1))+num B30 (lb.take (k+1)) by
     rw [num_set_take _ _ _ _ (by rw [Hr.out];omega),Htx.out,Hty.out,Nat.pow_succ];exact Hst.out)
    clear hd1 hc1' hdc hd Hst hs2 hs1;go_wp2_with fail
    go_roundw
    case rel=>exact⟨k+1,c',r.set k d,by omega,by first|rfl|go_num,rfl,Hc'.out,by rw [List.length_set,Hr.out],set_lt Hrl.out Hd.out k,Hset.out,hbel.setCell (Nat.le_refl _) _,Hrel.out⟩
    case measure=>simp [intOf];omega
   ·have ey:lb.getD k 0=0:=by rw [List.getD_eq_getElem?_getD,List.getElem?_eq_none (by rw [Hm.out];omega)];rfl
    rw [ey] at Hty;clear ey;obtain⟨s,hs2⟩:∃s:Nat,s=s1:=⟨_,rfl⟩;obtain⟨d,c',hd,hdc,hd1,hc1'⟩:=split30 s;have hrem:(s1:Int) % 1073741824=(d:Int):=by omega
    have hquo:(s1:Int) / 1073741824=(c':Int):=by omega
    have hsb:s1≤4294967296:=by omega
    have hcb:c'≤4294967296:=by omega
    have hwq:IntKind.i64.wrap (c':Int)=(c':Int):=IntWalk.i64_in _ (by rw [hc1'];omega);have hwd:IntKind.i64.wrap (d:Int)=(d:Int):=IntWalk.i64_in _ (by rw [hd1];omega);have hwk:IntKind.i64.wrap ((k:Int)+1)=((k+1:Nat):Int):=(IntWalk.i64_in _ (by omega)).trans (by omega);have Hc':=ZZ (show c'≤1 by rw [hc1'];omega);have Hst:=ZZ (add_step (s:=d) (c':=c') (B:=B30) Hnum.out (x:=x) (y:=0) (c:=cy) (by rw [hdc];omega));have Hd:=ZZ hd;have Hset:=ZZ (Hbk.out.set_ k d)
    have Hrel:=ZZ (show num B30 ((r.set k d).take (k+1))+B30 ^ (k+1)*c'=num B30 (la.take (k+1))+num B30 (lb.take (k+1)) by
     rw [num_set_take _ _ _ _ (by rw [Hr.out];omega),Htx.out,Hty.out,Nat.pow_succ];exact Hst.out)
    clear hd1 hc1' hdc hd Hst hs2 hs1;go_wp2_with fail
    go_roundw
    case rel=>exact⟨k+1,c',r.set k d,by omega,by first|rfl|go_num,rfl,Hc'.out,by rw [List.length_set,Hr.out],set_lt Hrl.out Hd.out k,Hset.out,hbel.setCell (Nat.le_refl _) _,Hrel.out⟩
    case measure=>simp [intOf];omega
  ·have hkn:k=n:=by omega
   subst hkn;have hci:=Hbk.out.cell k (by rw [Hr.out];omega);have hfi:=Hbk.out.frozen k;have Hset:=ZZ (Hbk.out.set_ k cy);have Hcy:Hid (cy<B30):=by show _<_;rw [B30_eq];omega
   have HC:=ZZ Hset.out.cl;go_wp2_with fail;refine(rcut_c _ (r.set k cy) _ _ HC.out (k+1) (by rw [List.length_set,Hr.out]) (by omega) (by omega)).mono ?_;rintro e w2 ⟨rfl,rfl⟩;go_wp2_with fail;go_ret;refine⟨_,rfl,?_,hbel.setCell (Nat.le_refl _) _,(fun b hb=>by cases hb;exact Nat.le_refl _)⟩;have h1:=Hnum.out;rw [num_take_all B30 la (by rw [Hn.out];omega),num_take_all B30 lb (by rw [Hm.out];have:=Hle.out;omega)] at h1;have h2:=rcut_w (set_lt Hrl.out Hcy.out k) HC.out (c:=k+1) (by rw [List.length_set,Hr.out];omega);rw [←h1,←num_set_take B30 r k cy (by rw [Hr.out];omega),num_take_all _ _ (by rw [List.length_set,Hr.out];omega)];exact h2
theorem plus_f (va vb:Value) (m n:Nat) (w:World) (ha:Wr w va m) (hb:Wr w vb n) (sa:Sr m) (sb:Sr n):Calls Tryz.prog 107 #[va,vb] w fun e w'=>∃v,e=.returned v∧Wr w' v (m+n)∧Ext w w'∧Fr w.heap.size v:=by
 obtain⟨A,ca,rfl,hca,hA⟩:=ha;obtain⟨B,cb,rfl,hcb,hB⟩:=hb;unfold Sr at sa sb
 by_cases h:(dr n).length≤(dr m).length
 ·have h:=plus_le A B (dr m) (dr n) ca cb w _ _ rfl rfl hA hB (dr_lt m) (dr_lt n) h (by omega)
  rwa [num_dr,num_dr] at h
 ·have h:=plus_gt B A (dr n) (dr m) cb ca w _ _ rfl rfl hB hA (dr_lt n) (dr_lt m) (by omega) (by omega)
  rw [num_dr,num_dr,Nat.add_comm] at h;exact h
end Go.Proofs.YtaaoleakkaloeaaGreatDoor
set_option linter.unusedVariables false
set_option maxRecDepth 100000
set_option maxHeartbeats 64000000
namespace Go.Proofs.YtaaoleakkaloeaaGreatDoor
open Go.RowKit
theorem setup2 (w:World) (x0 x1 x2 y0 y1 y2:Value):(∀W,Ext ((w.alloc (.cells #[x0,x1,x2] 36)).alloc (.cells #[y0,y1,y2] 36)) W→W.cell? ⟨w.heap.size,0,none⟩=some x0∧W.cell? ⟨w.heap.size,1,none⟩=some x1∧W.cell? ⟨w.heap.size,2,none⟩=some x2∧W.cell? ⟨w.heap.size+1,0,none⟩=some y0∧W.cell? ⟨w.heap.size+1,1,none⟩=some y1∧W.cell? ⟨w.heap.size+1,2,none⟩=some y2)∧(∀W,Ext (((w.alloc (.cells #[x0,x1,x2] 36)).alloc (.cells #[y0,y1,y2] 36)).alloc (.cells #[.bool false,.slice none 0 0,.slice none 0 0] 36)) W→W.heap[w.heap.size+1+1]?=some (.cells #[.bool false,.slice none 0 0,.slice none 0 0] 36 (0,0)))∧Ext w ((w.alloc (.cells #[x0,x1,x2] 36)).alloc (.cells #[y0,y1,y2] 36))∧Ext ((w.alloc (.cells #[x0,x1,x2] 36)).alloc (.cells #[y0,y1,y2] 36)) (((w.alloc (.cells #[x0,x1,x2] 36)).alloc (.cells #[y0,y1,y2] 36)).alloc (.cells #[.bool false,.slice none 0 0,.slice none 0 0] 36))∧w.heap.size≤w.heap.size+1+1∧((w.alloc (.cells #[x0,x1,x2] 36)).alloc (.cells #[y0,y1,y2] 36)).heap.size≤w.heap.size+1+1:=by
 have z0:(w.alloc (.cells #[x0,x1,x2] 36)).heap.size=w.heap.size+1:=by simp
 have z1:((w.alloc (.cells #[x0,x1,x2] 36)).alloc (.cells #[y0,y1,y2] 36)).heap.size=w.heap.size+1+1:=by simp
 have e0:Ext w (w.alloc (.cells #[x0,x1,x2] 36)):=ac _ _;generalize hw0:w.alloc (.cells #[x0,x1,x2] 36)=w0 at *;have e1:Ext w0 (w0.alloc (.cells #[y0,y1,y2] 36)):=ac _ _;refine⟨fun W h=>?_,fun W h=>?_,al e0 e1,ac _ _,by omega,Nat.le_of_eq z1⟩
 ·have r0:=row3 (hw0 ▸ (al e1 h):Ext (w.alloc (.cells #[x0,x1,x2] 36)) W)
  have r1:=row3 h;rw [z0] at r1;obtain⟨a,b,c,-⟩:=aj r0;obtain⟨a',b',c',-⟩:=aj r1;exact⟨a,b,c,a',b',c'⟩
 ·have r2:=row3 h
  rw [z1] at r2;exact r2
theorem Nm.put3 {W:World} {s:Bool} {A B:Option Addr} {k c l d g:Nat} {q:Rat} (h:Nm W (.agg #[.bool s,.slice A k c,.slice B l d]) q) (hg:W.heap[g]?=some (.cells #[.bool false,.slice none 0 0,.slice none 0 0] 36 (0,0))):Nm (((W.setCell ⟨g,0,none⟩ (.bool s)).setCell ⟨g,1,none⟩ (.slice A k c)).setCell ⟨g,2,none⟩ (.slice B l d)) (.agg #[.bool s,.slice A k c,.slice B l d]) q:=by
 obtain⟨vn,vd,e,h1,h2⟩:=h;exact⟨vn,vd,e,h1.put3 hg _ _ _,h2.put3 hg _ _ _⟩
theorem mul_q (M:Nat) (hM:M≤1099511627776) (vx vy:Value) (x y:Rat) (w:World) (hx:Nm w vx x) (hy:Nm w vy y) (bx:Bq M x) (by_:Bq M y):Calls Tryz.prog 51 #[vx,vy] w fun e w'=>∃v,e=.returned v∧Nm w' v (x*y)∧Ext w w':=by
 obtain⟨A,k,ca,B,l,cb,rfl,hxn,hxd,-,-⟩:=hx.form;obtain⟨C,m,cc,D,n,cd,rfl,hyn,hyd,-,-⟩:=hy.form;obtain⟨s1,s2,-,-,-,-⟩:=Bq.sm2 bx by_ hM;obtain⟨s3,s4⟩:=bx.sm hM;obtain⟨s5,s6⟩:=by_.sm hM;have D0:=ZZ (Nat.mul_pos x.den_pos y.den_pos);have Hx:=ZZ hx;have Hy:=ZZ hy;have Hxn:=ZZ hxn;have Hyn:=ZZ hyn;have S1:=ZZ s1;have S2:=ZZ s2;have S3:=ZZ s3;have S4:=ZZ s4;have S5:=ZZ s5;have S6:=ZZ s6;obtain⟨hS,hZ,hw1,hw2,hsz,hsz1⟩:=setup2 w (.bool (decide (x.num<0))) (.slice A k ca) (.slice B l cb) (.bool (decide (y.num<0))) (.slice C m cc) (.slice D n cd);have HS:=ZZ hS;have HZ:=ZZ hZ;have HW1:=ZZ hw1;have HW2:=ZZ hw2;have Hsz:=ZZ hsz;have Hsz1:=ZZ hsz1;clear hx hy hxn hxd hyn hyd s1 s2 s3 s4 s5 s6 hS hZ hw1 hw2 hsz hsz1 bx by_ hM;generalize hbx:decide (x.num<0)=b1 at *;generalize hby:decide (y.num<0)=b2 at *;have Hbx:=ZZ hbx
 have Hby:=ZZ hby
 clear hbx hby
 go_enter Tryz.func51,Tryz.ntmps51
 go_wp2_with fail;generalize World.alloc (World.alloc (World.alloc w (.cells #[.bool b1,.slice A k ca,.slice B l cb] _)) (.cells #[.bool b2,.slice C m cc,.slice D n cd] _)) _=W2 at *
 generalize World.alloc (World.alloc w (.cells #[.bool b1,.slice A k ca,.slice B l cb] _)) (.cells #[.bool b2,.slice C m cc,.slice D n cd] _)=W1 at *;generalize hg0:w.heap.size=g0 at *;have Hsz:=ZZ (show w.heap.size≤g0+1+1 by omega);clear hg0;have hx0:=ZZ (ae W2);have hww:=ZZ (al HW1.out HW2.out);have hS0:=HS.out W2 HW2.out
 go_region_held3 (fun W=>W.cell? ⟨g0,0,none⟩=some (.bool b1)∧W.cell? ⟨g0,1,none⟩=some (.slice A k ca)∧W.cell? ⟨g0,2,none⟩=some (.slice B l cb)∧W.cell? ⟨g0+1,0,none⟩=some (.bool b2)∧W.cell? ⟨g0+1,1,none⟩=some (.slice C m cc)∧W.cell? ⟨g0+1,2,none⟩=some (.slice D n cd))
  (first
   | exact HS.out _ (am (al HW2.out hx5.out) Hsz1.out _ _ _)
   | exact HS.out _ (al HW2.out hx5.out)
   | exact HS.out _ (al HW2.out hx4.out)
   | exact HS.out _ (al HW2.out hx3.out)
   | exact HS.out _ (al HW2.out hx2.out)
   | exact HS.out _ (al HW2.out hx1.out)
   | exact HS.out _ (al HW2.out hx0.out))
  (first
   |(go_at_call_of 46 A
     refine(mul_c _ _ _ _ _ (Hxn.out.mono (al hww.out hx0.out)) (Hyn.out.mono (al hww.out hx0.out)) S3.out S5.out).mono ?_;rintro e w3 ⟨v3,rfl,h3,k3⟩;obtain⟨P1,p1,c1,rfl⟩:=h3.form';have hx1:=ZZ (al hx0.out k3);have H3:=ZZ h3;clear h3 k3)
   |(go_at_call_of 47 B
     refine(under_c _ _ _ (Hx.out.mono (al hww.out hx1.out))).mono ?_;rintro e w4 ⟨v4,rfl,h4,k4⟩;obtain⟨P2,p2,c2,rfl⟩:=h4.form';have hx2:=ZZ (al hx1.out k4);have H3':=ZZ (H3.out.mono k4);have H4:=ZZ h4;clear h4 k4)
   |(go_at_call_of 47 D
     refine(under_c _ _ _ (Hy.out.mono (al hww.out hx2.out))).mono ?_;rintro e w5 ⟨v5,rfl,h5,k5⟩;obtain⟨P3,p3,c3,rfl⟩:=h5.form';have hx3:=ZZ (al hx2.out k5);have H3'':=ZZ (H3'.out.mono k5);have H4':=ZZ (H4.out.mono k5);have H5:=ZZ h5;clear h5 k5)
   |(go_at_call_of 46 P2
     refine(mul_c _ _ _ _ _ H4'.out H5.out S4.out S6.out).mono ?_;rintro e w6 ⟨v6,rfl,h6,k6⟩;obtain⟨P4,p4,c4,rfl⟩:=h6.form';have hx4:=ZZ (al hx3.out k6);have H3t:=ZZ (H3''.out.mono k6);have H6:=ZZ h6;clear h6 k6)
   |(go_at_call 58
     refine(reduced_c _ _ _ _ _ _ H3t.out H6.out S1.out S2.out D0.out).mono ?_;rintro e w7 ⟨v7,rfl,h7,k7⟩;obtain⟨P5,p5,c5,P6,p6,c6,h7e,-⟩:=h7.form;subst h7e;have hx5:=ZZ (al hx4.out k7);have H7:=ZZ h7;have hz:=HZ.out _ hx5.out;obtain⟨z0,z1,z2,f0,f1,f2⟩:=aj hz;have Hz:=ZZ hz;clear h7 k7 hz))
 go_wp2_with fail;refine bodyPost_ret (v:=.agg #[.bool (decide ((rat (!(b1 == b2)) (x.num.natAbs*y.num.natAbs) (x.den*y.den)).num<0)),.slice P5 p5 c5,.slice P6 p6 c6]) (by simp [results,Tryz.f51];go_simp) rfl ?_
 refine⟨_,rfl,?_,am (al hww.out hx5.out) Hsz.out _ _ _⟩;have hr:=mul_parts x y;rw [Hbx.out,Hby.out] at hr;have hr':rat (!(b1 == b2)) (x.num.natAbs*y.num.natAbs) (x.den*y.den)=x*y:=hr;have h8:=H7.out.put3 Hz.out;rw [hr'] at h8 ⊢;exact h8
end Go.Proofs.YtaaoleakkaloeaaGreatDoor
set_option linter.unusedVariables false
set_option maxRecDepth 100000
set_option maxHeartbeats 64000000
namespace Go.Proofs.YtaaoleakkaloeaaGreatDoor
open Go.RowKit
theorem setup1 (w:World) (x0 x1 x2:Value):(∀W,Ext (w.alloc (.cells #[x0,x1,x2] 36)) W→W.cell? ⟨w.heap.size,0,none⟩=some x0∧W.cell? ⟨w.heap.size,1,none⟩=some x1∧W.cell? ⟨w.heap.size,2,none⟩=some x2)∧(∀W,Ext ((w.alloc (.cells #[x0,x1,x2] 36)).alloc (.cells #[.bool false,.slice none 0 0,.slice none 0 0] 36)) W→W.heap[w.heap.size+1]?=some (.cells #[.bool false,.slice none 0 0,.slice none 0 0] 36 (0,0)))∧Ext w (w.alloc (.cells #[x0,x1,x2] 36))∧Ext (w.alloc (.cells #[x0,x1,x2] 36)) ((w.alloc (.cells #[x0,x1,x2] 36)).alloc (.cells #[.bool false,.slice none 0 0,.slice none 0 0] 36))∧w.heap.size≤w.heap.size+1∧(w.alloc (.cells #[x0,x1,x2] 36)).heap.size≤w.heap.size+1:=by
 have z0:(w.alloc (.cells #[x0,x1,x2] 36)).heap.size=w.heap.size+1:=by simp
 refine⟨fun W h=>?_,fun W h=>?_,ac _ _,ac _ _,by omega,Nat.le_of_eq z0⟩
 ·obtain⟨a,b,c,-⟩:=aj (row3 h)
  exact⟨a,b,c⟩
 ·have r2:=row3 h
  rw [z0] at r2;exact r2
theorem setup2n (w:World) (x0 x1 x2 y0 y1 y2:Value):(∀W,Ext ((w.alloc (.cells #[x0,x1,x2] 36)).alloc (.cells #[y0,y1,y2] 36)) W→W.cell? ⟨w.heap.size,0,none⟩=some x0∧W.cell? ⟨w.heap.size,1,none⟩=some x1∧W.cell? ⟨w.heap.size,2,none⟩=some x2∧W.cell? ⟨w.heap.size+1,0,none⟩=some y0∧W.cell? ⟨w.heap.size+1,1,none⟩=some y1∧W.cell? ⟨w.heap.size+1,2,none⟩=some y2)∧Ext w ((w.alloc (.cells #[x0,x1,x2] 36)).alloc (.cells #[y0,y1,y2] 36)):=by
 have h:=setup2 w x0 x1 x2 y0 y1 y2;exact⟨h.1,h.2.2.1⟩
theorem dn_neg (x:Rat):dn (-x)=dn x:=by unfold dn;rw [Rat.neg_den]
theorem Nm.flip {W:World} {s:Bool} {vn vd:Value} {x:Rat} (h1:Wd W vn x.num.natAbs) (h2:Wd W vd (dn x)) (hs:s=decide ((-x).num<0)):Nm W (.agg #[.bool s,vn,vd]) (-x):=by
 subst hs;exact⟨_,_,rfl,by rw [Rat.neg_num,Int.natAbs_neg];exact h1,by rw [dn_neg];exact h2⟩
theorem Nm.same {W:World} {s:Bool} {vn vd:Value} {x:Rat} (h1:Wd W vn x.num.natAbs) (h2:Wd W vd (dn x)) (hs:s=decide (x.num<0)):Nm W (.agg #[.bool s,vn,vd]) x:=by
 subst hs;exact⟨_,_,rfl,h1,h2⟩
theorem ext2 (w:World) (a b:Obj):Ext w ((w.alloc a).alloc b):=al (ac _ _) (ac _ _)
theorem ret_i {a b:Int} (h:a=b):Ending.returned (.int .i64 b)=.returned (.int .i64 a):=by rw [h]
def absQ (x:Rat):Rat:=if x.num<0 then -x else x
theorem neg_q (vx:Value) (x:Rat) (w:World) (hx:Nm w vx x):Calls Tryz.prog 11 #[vx] w fun e w'=>∃v,e=.returned v∧Nm w' v (-x)∧Ext w w':=by
 obtain⟨A,k,ca,B,l,cb,rfl,hxn,hxd,hk,-⟩:=hx.form;have Hxn:=ZZ hxn;have Hxd:=ZZ hxd;have Hk:=ZZ hk;clear hx hxn hxd hk
 rcases hb:decide (x.num<0) with _|_
 ·have Hb:=ZZ (show ¬ x.num<0 by simpa using hb)
  clear hb
  rcases Nat.eq_zero_or_pos k with h0|h0
  ·subst h0
   go_enter Tryz.func11,Tryz.ntmps11
   go_wp2_with fail;refine bodyPost_ret (v:=.agg #[.bool false,.slice A 0 ca,.slice B l cb]) (by simp [results,Tryz.f11];go_simp) rfl ?_
   have e:x=0:=Hk.out.1 (by first|rfl|trivial);refine⟨_,rfl,Nm.flip (Hxn.out.mono (ext2 _ _ _)) (Hxd.out.mono (ext2 _ _ _)) ?_,ext2 _ _ _⟩;rw [e];rfl
  ·have t1:((0:Int)<(k:Int)):=by omega
   have hk0:¬ k=0:=by omega
   have Hk0:=ZZ hk0;clear hk0
   go_enter Tryz.func11,Tryz.ntmps11
   go_wp2_with fail;refine bodyPost_ret (v:=.agg #[.bool true,.slice A k ca,.slice B l cb]) (by simp [results,Tryz.f11];go_simp) rfl ?_
   have e:x.num≠0:=fun e=>Hk0.out (Hk.out.2 (Rat.num_eq_zero.1 e));have hb:=Hb.out;refine⟨_,rfl,Nm.flip (Hxn.out.mono (ext2 _ _ _)) (Hxd.out.mono (ext2 _ _ _)) ?_,ext2 _ _ _⟩;rw [Rat.neg_num];symm;rw [decide_eq_true_eq];omega
 ·have Hb:=ZZ (show x.num<0 by simpa using hb)
  clear hb
  go_enter Tryz.func11,Tryz.ntmps11
  go_wp2_with fail;refine bodyPost_ret (v:=.agg #[.bool false,.slice A k ca,.slice B l cb]) (by simp [results,Tryz.f11];go_simp) rfl ?_
  have hb:=Hb.out;refine⟨_,rfl,Nm.flip (Hxn.out.mono (ext2 _ _ _)) (Hxd.out.mono (ext2 _ _ _)) ?_,ext2 _ _ _⟩;rw [Rat.neg_num];symm;rw [decide_eq_false_iff_not];omega
theorem abs_q (vx:Value) (x:Rat) (w:World) (hx:Nm w vx x):Calls Tryz.prog 85 #[vx] w fun e w'=>∃v,e=.returned v∧Nm w' v (absQ x)∧Ext w w':=by
 obtain⟨A,k,ca,B,l,cb,rfl,hxn,hxd,hk,-⟩:=hx.form;have Hxn:=ZZ hxn;have Hxd:=ZZ hxd;clear hx hxn hxd hk;generalize hb:decide (x.num<0)=b;have Hb:=ZZ hb;clear hb
 go_enter Tryz.func85,Tryz.ntmps85
 go_wp2_with fail;refine bodyPost_ret (v:=.agg #[.bool false,.slice A k ca,.slice B l cb]) (by simp [results,Tryz.f85];go_simp) rfl ?_
 refine⟨_,rfl,?_,ext2 _ _ _⟩;unfold absQ
 split
 ·rename_i h
  exact Nm.flip (Hxn.out.mono (ext2 _ _ _)) (Hxd.out.mono (ext2 _ _ _)) (by rw [Rat.neg_num];symm;rw [decide_eq_false_iff_not];omega)
 ·rename_i h
  exact Nm.same (Hxn.out.mono (ext2 _ _ _)) (Hxd.out.mono (ext2 _ _ _)) (by symm;rw [decide_eq_false_iff_not];exact h)
theorem sign_q (vx:Value) (x:Rat) (w:World) (hx:Nm w vx x):Calls Tryz.prog 12 #[vx] w fun e w'=>e=.returned (.int .i64 x.num.sign)∧Ext w w':=by
 obtain⟨A,k,ca,B,l,cb,rfl,hxn,hxd,hk,-⟩:=hx.form;have Hk:=ZZ hk;clear hx hxn hxd hk
 rcases Nat.eq_zero_or_pos k with h0|h0
 ·subst h0
  generalize hb:decide (x.num<0)=b;clear hb
  go_enter Tryz.func12,Tryz.ntmps12
  go_wp2_with fail;go_ret
  have e:x=0:=Hk.out.1 (by first|rfl|trivial);exact⟨ret_i (by rw [e];rfl),ac _ _⟩
 ·have t1:((k:Int) == 0)=false:=by simp;omega
  have Hk0:=ZZ (show ¬ k=0 by omega)
  rcases hb:decide (x.num<0) with _|_
  ·have Hb:=ZZ (show ¬ x.num<0 by simpa using hb)
   clear hb
   go_enter Tryz.func12,Tryz.ntmps12
   go_wp2_with fail;go_ret
   have e:x.num≠0:=fun e=>Hk0.out (Hk.out.2 (Rat.num_eq_zero.1 e));have hb:=Hb.out;exact⟨ret_i (Int.sign_eq_one_of_pos (by omega)),ac _ _⟩
  ·have Hb:=ZZ (show x.num<0 by simpa using hb)
   clear hb
   go_enter Tryz.func12,Tryz.ntmps12
   go_wp2_with fail;go_ret
   exact⟨ret_i (Int.sign_eq_neg_one_of_neg Hb.out),ac _ _⟩
end Go.Proofs.YtaaoleakkaloeaaGreatDoor
