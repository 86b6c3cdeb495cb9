/- The program's natural numbers: sums and differences. The program's natural numbers: products. -/
import Derived.Test.YtaaoleakkaloeaaGreatDoorGWa
import Derived.Laws.Externs
import Derived.Shelf.Spec.BitsCarry
import Derived.Test.YtaaoleakkaloeaaGreatDoorGShelf
set_option linter.unusedVariables false
set_option maxRecDepth 100000
set_option maxHeartbeats 64000000
namespace Go.Proofs.YtaaoleakkaloeaaGreatDoor
open Go.RowKit
def zs (n:Nat):List Nat:=List.replicate n 0
theorem zs_length (n:Nat):(zs n).length=n:=by simp [zs]
theorem zs_lt {B:Nat} (hB:0<B) (n:Nat):∀d ∈ zs n,d<B:=by intro d hd;simp [zs] at hd;omega
theorem info_u64:(Tryz.prog.info? 98).map (fun i=>(i.zero,i.size,i.bytes))=some (some (.int .u64 0),1,8):=by kernel_rfl
theorem mk_words (n:Nat) (z:Int) (hz:z=(n:Int)) (hn:n≤35184372088832) (w:World):(Instr.makeSlice 34 (.int .i64 z) (.int .i64 z)).run Tryz.prog w=.ok (.slice (some ⟨w.heap.size,0,none⟩) n n) (w.alloc (.cells ((zs n).map u64).toArray 98)):=by
 subst hz;obtain⟨i,hi,h1,h2,h3⟩:=info_parts info_u64;have h:=run_make (P:=Tryz.prog) w 34 98 i (.int .u64 0) Tryz.underlying34 hi h1 .i64 .i64 (n:Int) (n:Int) (by omega) (Int.le_refl _) (by rw [h3];omega) (by omega);rw [h]
 have e:madeCells (Value.int .u64 0).cells (n*i.size)=((zs n).map u64).toArray:=by
  rw [h2,Nat.mul_one]
  have:=toList_madeCells_one (.int .u64 0) n
  have h':(madeCells (Value.int .u64 0).cells n).toList=(zs n).map u64:=by
   rw [show (Value.int .u64 0).cells=#[Value.int .u64 0] from rfl,this];simp [zs,u64]
  rw [←h']
 simp only [Int.toNat_natCast,e]
def BkU (w:World) (g:Nat) (l:List Nat):Prop:=w.heap[g]?=some (.cells (l.map u64).toArray 98 (0,0))
theorem BkU.lt {w:World} {g:Nat} {l:List Nat} (h:BkU w g l):g<w.heap.size:=by
 rcases Nat.lt_or_ge g w.heap.size with hlt|hge
 ·exact hlt
 ·unfold BkU at h;rw [Array.getElem?_eq_none hge] at h;cases h
theorem BkU.cell {w:World} {g:Nat} {l:List Nat} (h:BkU w g l) (i:Nat) (hi:i<l.length):w.cell? ⟨g,i,none⟩=some (.int .u64 ((l.getD i 0:Nat):Int)):=by
 rw [cell_of_row w g i _ _ _ h];simp [hi,u64,List.getD_eq_getElem?_getD]
theorem BkU.frozen {w:World} {g:Nat} {l:List Nat} (h:BkU w g l) (i:Nat):w.frozen? ⟨g,i,none⟩=false:=frozen_of_row w g i _ _ h
theorem BkU.new (w:World) (l:List Nat):BkU (w.alloc (.cells (l.map u64).toArray 98)) w.heap.size l:=heap_alloc_new w _
theorem BkU.set_ {w:World} {g:Nat} {l:List Nat} (h:BkU w g l) (i v:Nat):BkU (w.setCell ⟨g,i,none⟩ (.int .u64 (v:Int))) g (l.set i v):=by
 unfold BkU at h ⊢
 simp only [World.setCell,Array.getElem?_modify,h]
 simp [List.map_set,u64]
theorem BkU.ext {w w':World} {g:Nat} {l:List Nat} (h:BkU w g l) (k:Ext w w'):BkU w' g l:=(k.block g h.lt).trans h
theorem BkU.cl {w:World} {g:Nat} {l:List Nat} (h:BkU w g l):Cl w (some ⟨g,0,none⟩) (l.map u64):=
 cl_block h (fun j hj=>by simp [List.getD_eq_getElem?_getD] at hj ⊢;simp [hj])
theorem BkU.cl_take {w:World} {g:Nat} {l:List Nat} (h:BkU w g l) (k:Nat):Cl w (some ⟨g,0,none⟩) ((l.take k).map u64):=
 cl_block h (fun j hj=>by
  simp at hj
  have hj2:j<l.length:=by omega
  simp [List.getD_eq_getElem?_getD,hj,hj2])
theorem set_take_succ (l:List Nat) (i v:Nat) (h:i<l.length):(l.set i v).take (i+1)=l.take i ++ [v]:=by
 rw [take_snoc_getD _ _ (by simpa using h),List.take_set_of_le (Nat.le_refl i)]
 simp [List.getD_eq_getElem?_getD,h]
theorem num_set_take (B:Nat) (l:List Nat) (i v:Nat) (h:i<l.length):num B ((l.set i v).take (i+1))=num B (l.take i)+B ^ i*v:=by
 rw [set_take_succ l i v h,num_snoc,List.length_take,Nat.min_eq_left (by omega)]
theorem set_lt {B:Nat} {l:List Nat} (h:∀d ∈ l,d<B) {v:Nat} (hv:v<B) (i:Nat):∀d ∈ l.set i v,d<B:=fun d hd=>by
 rcases List.mem_or_eq_of_mem_set hd with h1|h1
 ·exact h d h1
 ·rw [h1];exact hv
theorem num_take_le (B:Nat) (l:List Nat) (i:Nat):num B (l.take (i+1))=num B (l.take i)+B ^ i*l.getD i 0:=by
 rcases Nat.lt_or_ge i l.length with h|h
 ·exact num_take_succ B l i h
 ·rw [List.take_of_length_le (by omega),List.take_of_length_le h,List.getD_eq_getElem?_getD,List.getElem?_eq_none h];simp
theorem run_add (x y c:Nat) (hc:c≤1) (hx:x<B64) (hy:y<B64):∃s c':Nat,s<B64∧c'≤1∧s+B64*c'=x+y+c∧∀w,(callFunc 90 #[.int .u64 x,.int .u64 y,.int .u64 c]).run Tryz.prog w=.ok (.value (.tuple #[.int .u64 s,.int .u64 c'])) w:=by
 rw [B64_eq] at *;refine⟨(x+y+c) % 18446744073709551616,(x+y+c) / 18446744073709551616,Nat.mod_lt _ (by omega),by omega,by omega,fun w=>?_⟩;rw [run_callFunc_extern Tryz.func90 (by kernel_rfl) (by kernel_rfl) (by kernel_rfl) (e:=add64Entry) (by kernel_rfl),run_add64 x y c (by omega) (by omega) (by omega) (by omega)]
 simp only [Result.andThen]
 congr 5 <;> omega
theorem run_sub (x y b:Nat) (hc:b≤1) (hx:x<B64) (hy:y<B64):∃s b':Nat,s<B64∧b'≤1∧s+y+b=x+B64*b'∧∀w,(callFunc 123 #[.int .u64 x,.int .u64 y,.int .u64 b]).run Tryz.prog w=.ok (.value (.tuple #[.int .u64 s,.int .u64 b'])) w:=by
 rw [B64_eq] at *;refine⟨(x+18446744073709551616 - y - b) % 18446744073709551616,if x<y+b then 1 else 0,Nat.mod_lt _ (by omega),by split <;> omega,by split <;> omega,fun w=>?_⟩;rw [run_callFunc_extern Tryz.func123 (by kernel_rfl) (by kernel_rfl) (by kernel_rfl) (e:=sub64Entry) (by kernel_rfl),run_sub64 x y b hc]
 rfl
def CarR (g n val:Nat) (w w':World) (e:Ending):Prop:=
 ∃r:List Nat,e=.returned (.slice (some ⟨g,0,none⟩) (n+1) (n+1))∧r.length=n+1∧(∀d ∈ r,d<B64)∧BkU w' g r∧num B64 r=val∧Ext w w'
theorem add_step {R A C P B c s c' x y:Nat} (h:R+P*c=A+C) (hs:s+B*c'=x+y+c):R+P*s+P*B*c'=(A+P*x)+(C+P*y):=by
 have:P*(s+B*c')=P*(x+y+c):=by rw [hs]
 grind
theorem carried_add_c (A B:Option Addr) (la lb:List Nat) (ca cb:Nat) (w:World) (n m:Nat) (hn:la.length=n) (hm:lb.length=m) (hA:Cl w A (la.map u64)) (hB:Cl w B (lb.map u64)) (hla:∀d ∈ la,d<B64) (hlb:∀d ∈ lb,d<B64) (hle:m≤n) (hs:n≤2199023255552):Calls Tryz.prog 122 #[.slice A n ca,.slice B m cb,.func (.func 90) #[] #[]] w fun e w'=>CarR w.heap.size n (num B64 la+num B64 lb) w w' e:=by
 have Hn:Hid (la.length=n):=hn;have Hm:Hid (lb.length=m):=hm;have Hla:=ZZ hla;have Hlb:=ZZ hlb;have hmk:=mk_words (n+1) ((n:Int)+1) (by omega) (by omega);clear hn hm hla hlb
 go_enter Tryz.func122,Tryz.ntmps122
 go_wp2
 go_loopw [8,18] (fun c i wr=>∃(k cy:Nat) (r:List Nat),k≤n∧i=.int .i64 k∧c=.int .u64 cy∧cy≤1∧r.length=n+1∧(∀d ∈ r,d<B64)∧BkU wr w.heap.size r∧Below w.heap.size w wr∧num B64 (r.take k)+B64 ^ k*cy=num B64 (la.take k)+num B64 (lb.take k)) (fun _ i _=>n - (intOf i).toNat)
 case atStart=>exact⟨0,0,zs (n+1),Nat.zero_le _,rfl,rfl,by omega,zs_length _,zs_lt (by rw [B64_eq];omega) _,BkU.new _ _,ac _ _,by simp⟩
 case round=>
  obtain⟨k,cy,r,hk,rfl,rfl,hcy,hr,hrl,hbk,hbel,hnum⟩:=hrel;have Hr:Hid (r.length=n+1):=hr;have Hrl:=ZZ hrl;have Hbk:Hid (BkU wr w.heap.size r):=hbk;have Hnum:=ZZ hnum;clear hr hrl hnum hbk
  by_cases hlt:k<n
  ·have hci:=Hbk.out.cell k (by rw [Hr.out];omega)
   have hfi:=Hbk.out.frozen k;have hxl:=getD_lt Hla.out (by rw [B64_eq];omega) k;have hyl:=getD_lt Hlb.out (by rw [B64_eq];omega) k;have hcyl:cy<B64:=by rw [B64_eq];omega
   have hstep:∀s c':Nat,s<B64→s+B64*c'=la.getD k 0+lb.getD k 0+cy→Hid (num B64 ((r.set k s).take (k+1))+B64 ^ (k+1)*c'=num B64 (la.take (k+1))+num B64 (lb.take (k+1))):=fun s c' _ h=>by
    have:=add_step Hnum.out h
    show _=_
    rw [num_set_take _ _ _ _ (by rw [Hr.out];omega),num_take_le,num_take_le,Nat.pow_succ];exact this
   obtain⟨ba,oa,rfl,hca'⟩:=hA.u (by rw [Hn.out];omega);have ea:=ao hbel (hca' k (by rw [Hn.out];omega));clear hca' hA;generalize hgx:la.getD k 0=x at *;clear hgx
   by_cases hkm:k<m
   ·obtain⟨bb,ob,rfl,hcb'⟩:=hB.u (by rw [Hm.out];omega)
    have eb:=ao hbel (hcb' k (by rw [Hm.out];omega));clear hcb' hB;generalize hgy:lb.getD k 0=y at *;clear hgy;obtain⟨s,c',hs1,hc1,hsc,hrun⟩:=run_add x y cy hcy hxl hyl;have Hsc:=hstep s c' hs1 hsc;have Hs1:=ZZ hs1;have Hset:=ZZ (Hbk.out.set_ k s);clear hstep hsc hs1 hxl hyl
    go_wp2
    go_roundw
    case rel=>exact⟨k+1,c',r.set k s,by omega,by go_num,rfl,hc1,by rw [List.length_set,Hr.out],set_lt Hrl.out Hs1.out k,Hset.out,hbel.setCell (Nat.le_refl _) _,Hsc.out⟩
    case measure=>simp [intOf];omega
   ·have ey:lb.getD k 0=0:=by rw [List.getD_eq_getElem?_getD,List.getElem?_eq_none (by rw [Hm.out];omega)];rfl
    rw [ey] at hstep hyl;clear ey;obtain⟨s,c',hs1,hc1,hsc,hrun⟩:=run_add x 0 cy hcy hxl hyl;have hrun':∀w,(callFunc 90 #[.int .u64 x,.int .u64 0,.int .u64 cy]).run Tryz.prog w=.ok (.value (.tuple #[.int .u64 s,.int .u64 c'])) w:=hrun;have Hsc:=hstep s c' hs1 hsc;have Hs1:=ZZ hs1;have Hset:=ZZ (Hbk.out.set_ k s);clear hstep hsc hs1 hxl hyl hrun
    go_wp2
    go_roundw
    case rel=>exact⟨k+1,c',r.set k s,by omega,by go_num,rfl,hc1,by rw [List.length_set,Hr.out],set_lt Hrl.out Hs1.out k,Hset.out,hbel.setCell (Nat.le_refl _) _,Hsc.out⟩
    case measure=>simp [intOf];omega
  ·have hkn:k=n:=by omega
   subst hkn;have hci:=Hbk.out.cell k (by rw [Hr.out];omega);have hfi:=Hbk.out.frozen k;have Hset:=ZZ (Hbk.out.set_ k cy);have Hcy:Hid (cy<B64):=by show _<_;rw [B64_eq];omega
   go_wp2
   go_ret;refine⟨r.set k cy,rfl,by rw [List.length_set,Hr.out],set_lt Hrl.out Hcy.out k,Hset.out,?_,hbel.setCell (Nat.le_refl _) _⟩
   have h1:=Hnum.out;rw [num_take_all B64 la (by rw [Hn.out];omega),num_take_all B64 lb (by rw [Hm.out];omega)] at h1;rw [←h1,←num_set_take B64 r k cy (by rw [Hr.out];omega),num_take_all _ _ (by rw [List.length_set,Hr.out];omega)]
def CarS (g n a b:Nat) (w w':World) (e:Ending):Prop:=
 ∃r:List Nat,e=.returned (.slice (some ⟨g,0,none⟩) (n+1) (n+1))∧r.length=n+1∧(∀d ∈ r,d<B64)∧BkU w' g r∧(b≤a→num B64 (r.take n)=a - b)∧Ext w w'
theorem sub_step {R A C P B c s c' x y:Nat} (h:R+C=A+P*c) (hs:s+y+c=x+B*c'):R+P*s+(C+P*y)=A+P*x+P*B*c':=by
 have:P*(s+y+c)=P*(x+B*c'):=by rw [hs]
 grind
theorem carried_sub_c (A B:Option Addr) (la lb:List Nat) (ca cb:Nat) (w:World) (n m:Nat) (hn:la.length=n) (hm:lb.length=m) (hA:Cl w A (la.map u64)) (hB:Cl w B (lb.map u64)) (hla:∀d ∈ la,d<B64) (hlb:∀d ∈ lb,d<B64) (hle:m≤n) (hs:n≤2199023255552):Calls Tryz.prog 122 #[.slice A n ca,.slice B m cb,.func (.func 123) #[] #[]] w fun e w'=>CarS w.heap.size n (num B64 la) (num B64 lb) w w' e:=by
 have Hn:Hid (la.length=n):=hn;have Hm:Hid (lb.length=m):=hm;have Hla:=ZZ hla;have Hlb:=ZZ hlb;have hmk:=mk_words (n+1) ((n:Int)+1) (by omega) (by omega);clear hn hm hla hlb
 go_enter Tryz.func122,Tryz.ntmps122
 go_wp2
 go_loopw [8,18] (fun c i wr=>∃(k cy:Nat) (r:List Nat),k≤n∧i=.int .i64 k∧c=.int .u64 cy∧cy≤1∧r.length=n+1∧(∀d ∈ r,d<B64)∧BkU wr w.heap.size r∧Below w.heap.size w wr∧num B64 (r.take k)+num B64 (lb.take k)=num B64 (la.take k)+B64 ^ k*cy) (fun _ i _=>n - (intOf i).toNat)
 case atStart=>exact⟨0,0,zs (n+1),Nat.zero_le _,rfl,rfl,by omega,zs_length _,zs_lt (by rw [B64_eq];omega) _,BkU.new _ _,ac _ _,by simp⟩
 case round=>
  obtain⟨k,cy,r,hk,rfl,rfl,hcy,hr,hrl,hbk,hbel,hnum⟩:=hrel;have Hr:Hid (r.length=n+1):=hr;have Hrl:=ZZ hrl;have Hbk:Hid (BkU wr w.heap.size r):=hbk;have Hnum:=ZZ hnum;clear hr hrl hnum hbk
  by_cases hlt:k<n
  ·have hci:=Hbk.out.cell k (by rw [Hr.out];omega)
   have hfi:=Hbk.out.frozen k;have hxl:=getD_lt Hla.out (by rw [B64_eq];omega) k;have hyl:=getD_lt Hlb.out (by rw [B64_eq];omega) k;have hcyl:cy<B64:=by rw [B64_eq];omega
   have hstep:∀s c':Nat,s<B64→s+lb.getD k 0+cy=la.getD k 0+B64*c'→Hid (num B64 ((r.set k s).take (k+1))+num B64 (lb.take (k+1))=num B64 (la.take (k+1))+B64 ^ (k+1)*c'):=fun s c' _ h=>by
    have:=sub_step Hnum.out h
    show _=_
    rw [num_set_take _ _ _ _ (by rw [Hr.out];omega),num_take_le,num_take_le,Nat.pow_succ];exact this
   obtain⟨ba,oa,rfl,hca'⟩:=hA.u (by rw [Hn.out];omega);have ea:=ao hbel (hca' k (by rw [Hn.out];omega));clear hca' hA;generalize hgx:la.getD k 0=x at *;clear hgx
   by_cases hkm:k<m
   ·obtain⟨bb,ob,rfl,hcb'⟩:=hB.u (by rw [Hm.out];omega)
    have eb:=ao hbel (hcb' k (by rw [Hm.out];omega));clear hcb' hB;generalize hgy:lb.getD k 0=y at *;clear hgy;obtain⟨s,c',hs1,hc1,hsc,hrun⟩:=run_sub x y cy hcy hxl hyl;have Hsc:=hstep s c' hs1 hsc;have Hs1:=ZZ hs1;have Hset:=ZZ (Hbk.out.set_ k s);clear hstep hsc hs1 hxl hyl
    go_wp2
    go_roundw
    case rel=>exact⟨k+1,c',r.set k s,by omega,by go_num,rfl,hc1,by rw [List.length_set,Hr.out],set_lt Hrl.out Hs1.out k,Hset.out,hbel.setCell (Nat.le_refl _) _,Hsc.out⟩
    case measure=>simp [intOf];omega
   ·have ey:lb.getD k 0=0:=by rw [List.getD_eq_getElem?_getD,List.getElem?_eq_none (by rw [Hm.out];omega)];rfl
    rw [ey] at hstep hyl;clear ey;obtain⟨s,c',hs1,hc1,hsc,hrun⟩:=run_sub x 0 cy hcy hxl hyl;have hrun':∀w,(callFunc 123 #[.int .u64 x,.int .u64 0,.int .u64 cy]).run Tryz.prog w=.ok (.value (.tuple #[.int .u64 s,.int .u64 c'])) w:=hrun;have Hsc:=hstep s c' hs1 hsc;have Hs1:=ZZ hs1;have Hset:=ZZ (Hbk.out.set_ k s);clear hstep hsc hs1 hxl hyl hrun
    go_wp2
    go_roundw
    case rel=>exact⟨k+1,c',r.set k s,by omega,by go_num,rfl,hc1,by rw [List.length_set,Hr.out],set_lt Hrl.out Hs1.out k,Hset.out,hbel.setCell (Nat.le_refl _) _,Hsc.out⟩
    case measure=>simp [intOf];omega
  ·have hkn:k=n:=by omega
   subst hkn;have hci:=Hbk.out.cell k (by rw [Hr.out];omega);have hfi:=Hbk.out.frozen k;have Hset:=ZZ (Hbk.out.set_ k cy);have Hcy:Hid (cy<B64):=by show _<_;rw [B64_eq];omega
   go_wp2
   go_ret;have h1:=Hnum.out
   rw [num_take_all B64 la (by rw [Hn.out];omega),num_take_all B64 lb (by rw [Hm.out];omega)] at h1;refine⟨r.set k cy,rfl,by rw [List.length_set,Hr.out],set_lt Hrl.out Hcy.out k,Hset.out,fun hle=>?_,hbel.setCell (Nat.le_refl _) _⟩;have h2:=num_lt B64 (r.take k) (fun d hd=>Hrl.out d (List.mem_of_mem_take hd));rw [List.length_take,Nat.min_eq_left (by rw [Hr.out];omega)] at h2;rw [List.take_set_of_le (Nat.le_refl k)]
   have h3:cy=0:=by
    rcases Nat.lt_or_ge 0 cy with h|h
    ·have:B64 ^ k*1≤B64 ^ k*cy:=Nat.mul_le_mul_left _ h
     omega
    ·omega
   rw [h3] at h1;omega
theorem dg_lt (n:Nat):∀d ∈ dg n,d<B64:=(dg_norm n).lt
theorem add_c (va vb:Value) (m n:Nat) (w:World) (ha:Wd w va m) (hb:Wd w vb n) (sa:Sm m) (sb:Sm n):Calls Tryz.prog 93 #[va,vb] w fun e w'=>∃v,e=.returned v∧Wd w' v (m+n)∧Ext w w':=by
 obtain⟨A,ca,rfl,hca,hA⟩:=ha;obtain⟨B,cb,rfl,hcb,hB⟩:=hb;have lm:=dg_lt m;have ln:=dg_lt n;have em:=num_dg m;have en:=num_dg n;unfold Sm at sa sb;generalize dg m=xs at *;generalize dg n=ys at *;obtain⟨p,hp⟩:∃p,xs.length=p:=⟨_,rfl⟩;obtain⟨q,hq⟩:∃q,ys.length=q:=⟨_,rfl⟩;rw [hp] at hca sa ⊢;rw [hq] at hcb sb ⊢;have Hp:=ZZ hp;have Hq:=ZZ hq;have Lm:=ZZ lm;have Ln:=ZZ ln;have Em:=ZZ em;have En:=ZZ en;clear hp hq lm ln em en
 by_cases hlt:p<q
 ·go_enter Tryz.func93,Tryz.ntmps93
  go_wp2_with fail;refine(carried_add_c B A ys xs cb ca _ q p Hq.out Hp.out hB hA Ln.out Lm.out (by omega) (by omega)).mono ?_
  rintro e w1 ⟨r,rfl,hr,hrl,hbk,hnum,hext⟩;have Hr:=ZZ hr;have Hrl:=ZZ hrl;have Hbk:Hid (BkU w1 w.heap.size r):=hbk;have Hnum:=ZZ hnum;clear hr hrl hbk hnum;go_wp2_with fail;refine(cut_c _ r _ _ Hbk.out.cl (q+1) Hr.out (by omega) (by omega)).mono ?_;rintro e w2 ⟨rfl,rfl⟩;go_wp2_with fail;go_ret;refine⟨_,rfl,?_,hext⟩
  have:=cut_w Hrl.out Hbk.out.cl (c:=q+1) (by rw [Hr.out];omega)
  rw [Hnum.out,Em.out,En.out,Nat.add_comm n m] at this;exact this
 ·go_enter Tryz.func93,Tryz.ntmps93
  go_wp2_with fail;refine(carried_add_c A B xs ys ca cb _ p q Hp.out Hq.out hA hB Lm.out Ln.out (by omega) (by omega)).mono ?_
  rintro e w1 ⟨r,rfl,hr,hrl,hbk,hnum,hext⟩;have Hr:=ZZ hr;have Hrl:=ZZ hrl;have Hbk:Hid (BkU w1 w.heap.size r):=hbk;have Hnum:=ZZ hnum;clear hr hrl hbk hnum;go_wp2_with fail;refine(cut_c _ r _ _ Hbk.out.cl (p+1) Hr.out (by omega) (by omega)).mono ?_;rintro e w2 ⟨rfl,rfl⟩;go_wp2_with fail;go_ret;refine⟨_,rfl,?_,hext⟩
  have:=cut_w Hrl.out Hbk.out.cl (c:=p+1) (by rw [Hr.out];omega)
  rw [Hnum.out,Em.out,En.out] at this;exact this
theorem sub_c (va vb:Value) (m n:Nat) (w:World) (ha:Wd w va m) (hb:Wd w vb n) (sa:Sm m) (hle:n≤m):Calls Tryz.prog 94 #[va,vb] w fun e w'=>∃v,e=.returned v∧Wd w' v (m - n)∧Ext w w':=by
 obtain⟨A,ca,rfl,hca,hA⟩:=ha;obtain⟨B,cb,rfl,hcb,hB⟩:=hb;have lm:=dg_lt m;have ln:=dg_lt n;have em:=num_dg m;have en:=num_dg n;have hmono:=dig_length_mono B64_two hle
 change (dg n).length≤(dg m).length at hmono
 unfold Sm at sa;generalize dg m=xs at *;generalize dg n=ys at *;obtain⟨p,hp⟩:∃p,xs.length=p:=⟨_,rfl⟩;obtain⟨q,hq⟩:∃q,ys.length=q:=⟨_,rfl⟩;rw [hp] at hca sa hmono ⊢;rw [hq] at hcb hmono ⊢;have Hp:=ZZ hp;have Hq:=ZZ hq;have Lm:=ZZ lm;have Ln:=ZZ ln;have Em:=ZZ em;have En:=ZZ en;clear hp hq lm ln em en
 go_enter Tryz.func94,Tryz.ntmps94
 go_wp2_with fail;refine(carried_sub_c A B xs ys ca cb _ p q Hp.out Hq.out hA hB Lm.out Ln.out (by omega) (by omega)).mono ?_
 rintro e w1 ⟨r,rfl,hr,hrl,hbk,hnum,hext⟩;have Hr:=ZZ hr;have Hrl:=ZZ hrl;have Hbk:Hid (BkU w1 w.heap.size r):=hbk;have Hnum:=ZZ hnum;clear hr hrl hbk hnum;go_wp2_with fail;refine(cut_c _ (r.take p) _ _ (Hbk.out.cl_take p) p (by rw [List.length_take,Hr.out];omega) (by omega) (by omega)).mono ?_;rintro e w2 ⟨rfl,rfl⟩;go_wp2_with fail;go_ret;refine⟨_,rfl,?_,hext⟩
 have:=cut_w (fun d hd=>Hrl.out d (List.mem_of_mem_take hd)) (Hbk.out.cl_take p) (c:=p+1) (by rw [List.length_take,Hr.out];omega)
 rw [Hnum.out (by rw [Em.out,En.out];exact hle),Em.out,En.out] at this;exact this
end Go.Proofs.YtaaoleakkaloeaaGreatDoor
set_option linter.unusedVariables false
set_option maxRecDepth 100000
set_option maxHeartbeats 64000000
namespace Go.Proofs.YtaaoleakkaloeaaGreatDoor
open Go.RowKit
theorem num_set (B:Nat) (l:List Nat) (i v:Nat) (h:i<l.length):num B (l.set i v)+B ^ i*l.getD i 0=num B l+B ^ i*v:=by
 induction l generalizing i with
 | nil=>simp at h
 | cons d l ih=>
  cases i with
  | zero=>simp;omega
  | succ i=>
   have:=ih i (by simpa using h)
   simp only [List.set_cons_succ,num_cons,List.getD_cons_succ,Nat.pow_succ]
   have h2:=congrArg (B*·) this
   simp only [Nat.mul_add] at h2
   grind
theorem getD_set_ne {l:List Nat} {i j v:Nat} (h:i≠j):(l.set i v).getD j 0=l.getD j 0:=by
 simp [List.getD_eq_getElem?_getD,List.getElem?_set_ne h]
theorem mul_bounds {B x y o cy hi lo s1 c1 s2 c2:Nat} (hx:x<B) (hy:y<B) (ho:o<B) (hcy:cy<B) (h0:hi*B+lo=x*y) (h1:s1+B*c1=lo+o+0) (h2:s2+B*c2=s1+cy+0):hi+c1<B∧hi+c1+c2<B∧s2+B*(hi+c1+c2)=x*y+o+cy:=by
 have e:s2+B*(hi+c1+c2)=x*y+o+cy:=by grind
 have hxy:x*y≤(B - 1)*(B - 1):=Nat.mul_le_mul (by omega) (by omega)
 have hb:hi+c1+c2<B:=by
  rcases Nat.lt_or_ge (hi+c1+c2) B with h|h
  ·exact h
  ·have h3:B*B≤B*(hi+c1+c2):=Nat.mul_le_mul_left _ h
   obtain⟨b,rfl⟩:∃b,B=b+1:=⟨B - 1,by omega⟩
   simp only [Nat.add_sub_cancel] at hxy
   have h4:(b+1)*(b+1)=b*b+2*b+1:=by grind
   omega
 exact⟨by omega,hb,e⟩
theorem mul_step {R A P Q B cy o s cy' L T x y:Nat} (h:R+P*Q*cy=A+P*x*T) (hs:s+B*cy'=x*y+o+cy) (L0:L+P*Q*o=R+P*Q*s):L+P*Q*B*cy'=A+P*x*(T+Q*y):=by
 have:P*Q*(s+B*cy')=P*Q*(x*y+o+cy):=by rw [hs]
 grind
theorem mul64_c (x y:Nat) (hx:x<B64) (hy:y<B64) (w:World):Calls Tryz.prog 89 #[.int .u64 x,.int .u64 y] w fun e w'=>(∃hi lo:Nat,e=.returned (.tuple #[.int .u64 hi,.int .u64 lo])∧hi*B64+lo=x*y∧hi<B64∧lo<B64)∧w=w':=by
 rw [B64_eq] at *;refine(Tryz.bits_Mul64 x y hx hy w).mono fun e w' ⟨he,hw⟩=>⟨⟨_,_,he,?_,?_,?_⟩,hw.symm⟩
 ·have:=Nat.div_add_mod (x*y) 18446744073709551616;omega
 ·rw [Nat.div_lt_iff_lt_mul (by omega)]
  exact Nat.mul_lt_mul_of_lt_of_lt hx hy
 ·exact Nat.mod_lt _ (by omega)
theorem mul_r (A B:Option Addr) (la lb:List Nat) (ca cb:Nat) (w:World) (n m:Nat) (hn:la.length=n) (hm:lb.length=m) (hA:Cl w A (la.map u64)) (hB:Cl w B (lb.map u64)) (hla:∀d ∈ la,d<B64) (hlb:∀d ∈ lb,d<B64) (hs:n+m≤2199023255552):Calls Tryz.prog 46 #[.slice A n ca,.slice B m cb] w fun e w'=>∃v,e=.returned v∧Wd w' v (num B64 la*num B64 lb)∧Ext w w':=by
 have Hn:Hid (la.length=n):=hn;have Hm:Hid (lb.length=m):=hm;have Hla:=ZZ hla;have Hlb:=ZZ hlb;have hmk:=mk_words (n+m) ((n:Int)+(m:Int)) (by omega) (by omega);clear hn hm hla hlb
 go_enter Tryz.func46,Tryz.ntmps46
 go_wp2
 go_loopw [22] (fun i wr=>∃(k:Nat) (r:List Nat),k≤n∧i=.int .i64 k∧r.length=n+m∧(∀d ∈ r,d<B64)∧BkU wr w.heap.size r∧Below w.heap.size w wr∧num B64 r=num B64 (la.take k)*num B64 lb∧∀j,k+m≤j→r.getD j 0=0) (fun i _=>n - (intOf i).toNat)
 case atStart=>exact⟨0,zs (n+m),Nat.zero_le _,rfl,zs_length _,zs_lt (by rw [B64_eq];omega) _,BkU.new _ _,ac _ _,by simp [zs,num_replicate_zero],fun j _=>by
   simp [zs,List.getD_eq_getElem?_getD,List.getElem?_replicate];split <;> rfl⟩
 case round=>
  obtain⟨k,r,hk,rfl,hr,hrl,hbk,hbel,hnum,hz⟩:=hrel;obtain⟨wo,rfl⟩:∃wo:World,wo=wr:=⟨_,rfl⟩;have Hr:Hid (r.length=n+m):=hr;have Hrl:=ZZ hrl;have Hbk:Hid (BkU wo w.heap.size r):=hbk;have Hnum:=ZZ hnum;have Hz:=ZZ hz;clear hr hrl hnum hbk hz
  by_cases hlt:k<n
  ·obtain⟨ba,oa,rfl,hca'⟩:=hA.u (by rw [Hn.out];omega)
   have ea:=ao hbel (hca' k (by rw [Hn.out];omega));have hxl:=getD_lt Hla.out (by rw [B64_eq];omega) k;have Htk:Hid (num B64 (la.take (k+1))=num B64 (la.take k)+B64 ^ k*la.getD k 0):=num_take_le _ _ _;clear hca' hA;generalize la.getD k 0=x at *
   go_wp2
   go_loopw [8,29] (fun c j wr=>∃(t cy:Nat) (r:List Nat),t≤m∧j=.int .i64 t∧c=.int .u64 cy∧cy<B64∧r.length=n+m∧(∀d ∈ r,d<B64)∧BkU wr w.heap.size r∧Below w.heap.size w wr∧num B64 r+B64 ^ k*B64 ^ t*cy=num B64 (la.take k)*num B64 lb+B64 ^ k*x*num B64 (lb.take t)∧∀j,k+m≤j→r.getD j 0=0) (fun _ j _=>m - (intOf j).toNat)
   case atStart=>exact⟨0,0,r,Nat.zero_le _,rfl,rfl,by rw [B64_eq];omega,Hr.out,Hrl.out,Hbk.out,hbel,by rw [Hnum.out];simp,Hz.out⟩
   case round=>
    clear Hr Hrl Hbk Hnum Hz hbel ea;obtain⟨t,cy,r,ht,rfl,rfl,hcy,hr,hrl,hbk,hbel,hnum,hz⟩:=hrel;have Hr:Hid (r.length=n+m):=hr;have Hrl:=ZZ hrl;have Hbk:Hid (BkU wr w.heap.size r):=hbk;have Hnum:=ZZ hnum;have Hz:=ZZ hz;clear hr hrl hnum hbk hz
    by_cases hltm:t<m
    ·obtain⟨bb,ob,rfl,hcb'⟩:=hB.u (by rw [Hm.out];omega)
     have eb:=ao hbel (hcb' t (by rw [Hm.out];omega));have hyl:=getD_lt Hlb.out (by rw [B64_eq];omega) t;have Htt:Hid (num B64 (lb.take (t+1))=num B64 (lb.take t)+B64 ^ t*lb.getD t 0):=num_take_le _ _ _;clear hcb' hB;generalize lb.getD t 0=y at *;have hci:=Hbk.out.cell (k+t) (by rw [Hr.out];omega);have hfi:=Hbk.out.frozen (k+t);have hol:=getD_lt Hrl.out (by rw [B64_eq];omega) (k+t);have hns:=fun s=>num_set B64 r (k+t) s (by rw [Hr.out];omega);have Hns:=ZZ hns;clear hns;generalize r.getD (k+t) 0=o at *;have Hol:=ZZ hol;have Hxl:=ZZ hxl;have Hyl:=ZZ hyl;have Hcy:=ZZ hcy;clear hol hxl hyl hcy;go_wp2_with fail;refine(mul64_c x y Hxl.out Hyl.out _).mono ?_;rintro e w1 ⟨⟨hi,lo,rfl,hhl,hhi,hlo⟩,rfl⟩;obtain⟨s1,c1,hs1,hc1,hsc1,hrun1⟩:=run_add lo o 0 (by omega) hlo Hol.out;obtain⟨s2,c2,hs2,hc2,hsc2,hrun2⟩:=run_add s1 cy 0 (by omega) hs1 Hcy.out;have hrun1':∀w,(callFunc 90 #[.int .u64 lo,.int .u64 o,.int .u64 0]).run Tryz.prog w=.ok (.value (.tuple #[.int .u64 s1,.int .u64 c1])) w:=hrun1;have hrun2':∀w,(callFunc 90 #[.int .u64 s1,.int .u64 cy,.int .u64 0]).run Tryz.prog w=.ok (.value (.tuple #[.int .u64 s2,.int .u64 c2])) w:=hrun2;obtain⟨b1,b2,b3⟩:=mul_bounds Hxl.out Hyl.out Hol.out Hcy.out hhl hsc1 hsc2;have B3:=ZZ b3;have B2:=ZZ b2;have Hs2:=ZZ hs2;obtain⟨h2,hh2⟩:∃z,z=hi+c1:=⟨_,rfl⟩;obtain⟨h3,hh3⟩:∃z,z=h2+c2:=⟨_,rfl⟩
     have hw1:IntKind.u64.wrap ((hi:Int)+(c1:Int))=((h2:Nat):Int):=by
      rw [IntWalk.u64_in _ (by rw [B64_eq] at b1;omega)];omega
     have hw2:IntKind.u64.wrap ((h2:Int)+(c2:Int))=((h3:Nat):Int):=by
      rw [IntWalk.u64_in _ (by rw [B64_eq] at b2;omega)];omega
     have Hh3:Hid (h3=hi+c1+c2):=by show _=_;omega
     clear hrun1 hrun2 hsc1 hsc2 b1 b2 b3 hh2 hh3 hs1 hs2 hhl hhi hlo hc1 hc2;have Hset:=ZZ (Hbk.out.set_ (k+t) s2)
     go_wp2
     go_roundw
     case rel=>
      refine⟨t+1,h3,r.set (k+t) s2,by omega,by go_num,rfl,by rw [Hh3.out];exact B2.out,by rw [List.length_set,Hr.out],set_lt Hrl.out Hs2.out _,Hset.out,hbel.setCell (Nat.le_refl _) _,?_,fun j hj=>by rw [getD_set_ne (by omega)];exact Hz.out j hj⟩;have h5:=Hns.out s2;rw [Nat.pow_add] at h5;rw [Htt.out,Nat.pow_succ,←Nat.mul_assoc];have h6:=B3.out;rw [←Hh3.out] at h6;exact mul_step Hnum.out h6 h5
     case measure=>simp [intOf];omega
    ·have htm:t=m:=by omega
     subst htm;have hci:=Hbk.out.cell (k+t) (by rw [Hr.out];omega);have hfi:=Hbk.out.frozen (k+t);have Hset:=ZZ (Hbk.out.set_ (k+t) cy);have Hcy:=ZZ hcy;clear hcy
     go_wp2
     go_roundw
     case rel=>
      refine⟨k+1,r.set (k+t) cy,by omega,by go_num,by rw [List.length_set,Hr.out],set_lt Hrl.out Hcy.out _,Hset.out,hbel.setCell (Nat.le_refl _) _,?_,fun j hj=>by rw [getD_set_ne (by omega)];exact Hz.out j (by omega)⟩;have h5:=num_set B64 r (k+t) cy (by rw [Hr.out];omega);rw [Hz.out (k+t) (Nat.le_refl _),Nat.mul_zero,Nat.add_zero,Nat.pow_add] at h5;rw [h5,Hnum.out,num_take_all B64 lb (by rw [Hm.out];omega),Htk.out,Nat.add_mul]
     case measure=>simp [intOf];omega
  ·have hkn:k=n:=by omega
   subst hkn;have Hc:=Hbk.out.cl;have HC:=ZZ Hc;clear Hc;go_wp2_with fail;refine(cut_c _ r _ _ HC.out (k+m) Hr.out (by omega) (by omega)).mono ?_;rintro e w2 ⟨rfl,rfl⟩;go_wp2_with fail;go_ret;refine⟨_,rfl,?_,hbel⟩
   have:=cut_w Hrl.out HC.out (c:=k+m) (by rw [Hr.out];omega)
   rw [Hnum.out,num_take_all B64 la (by rw [Hn.out];omega)] at this;exact this
theorem mul_c (va vb:Value) (m n:Nat) (w:World) (ha:Wd w va m) (hb:Wd w vb n) (sa:Sm m) (sb:Sm n):Calls Tryz.prog 46 #[va,vb] w fun e w'=>∃v,e=.returned v∧Wd w' v (m*n)∧Ext w w':=by
 obtain⟨A,ca,rfl,hca,hA⟩:=ha;obtain⟨B,cb,rfl,hcb,hB⟩:=hb;have h:=mul_r A B (dg m) (dg n) ca cb w _ _ rfl rfl hA hB (dg_lt m) (dg_lt n) (by unfold Sm at sa sb;omega)
 rwa [num_dg,num_dg] at h
end Go.Proofs.YtaaoleakkaloeaaGreatDoor
