/- The reference's natural numbers: cutting, order, small numbers. The reference's natural numbers: sums, differences, products. Printed by gen_rb.py. The reference's natural numbers: differences, products, small numbers. Printed by gen_rc.py. The reference's natural numbers: binary digits, trailing zeros, short numbers. The reference's natural numbers: a shift to the right. The reference's natural numbers: a shift to the left. The reference's natural numbers: quotient and rest. The reference's natural numbers: the greatest common divisor. Printed by gen_rh.py. The reference's natural numbers: the number of a row of digits. The reference's texts: the sign, the parts, rows of digits; one. The reference's texts: parts and rows of digits. -/
import Derived.Test.YtpgdefgdboijlaaGreatDoorWb
import Derived.Test.YtpgdefgdboijlaaGreatDoorWe
import Derived.BigRegion
import Derived.Test.YtpgdefgdboijlaaGreatDoorT1
import Derived.Test.YtpgdefgdboijlaaGreatDoorWj
import Derived.Test.YtpgdefgdboijlaaGreatDoorTg
set_option linter.unusedVariables false
set_option maxRecDepth 100000
set_option maxHeartbeats 16000000
namespace Go.Proofs.YtpgdefgdboijlaaGreatDoor
open Go.RowKit
def Sr (n:Nat):Prop:=(dr n).length≤1099511627776
theorem dr_lt (n:Nat):∀d ∈ dr n,d<B30:=(dr_norm n).lt
def ordN (m n:Nat):Int:=if m<n then -1 else if n<m then 1 else 0
theorem ordN_lt {m n:Nat} (h:m<n):ordN m n = -1:=if_pos h
theorem ordN_gt {m n:Nat} (h:n<m):ordN m n=1:=by unfold ordN;rw [if_neg (by omega),if_pos h]
theorem ordN_eq {m n:Nat} (h:m=n):ordN m n=0:=by unfold ordN;rw [if_neg (by omega),if_neg (by omega)]
theorem rcut_w {A:Option Addr} {l:List Nat} {c:Nat} {w:World} (hl:∀d ∈ l,d<B30) (hA:Cl w A (l.map i64n)) (hc:l.length≤c):Wr w (.slice A (cut l).length c) (num B30 l):=by
 have e:=cut_dig B30_two hl
 have hle:(cut l).length≤l.length:=by
  clear e hA hc hl
  induction l with
  | nil=>simp [cut]
  | cons d l ih=>unfold cut;split <;> simp;omega
 have hpre:∃t,l=cut l ++ t:=by
  clear e hA hc hl hle
  induction l with
  | nil=>exact⟨[],by simp [cut]⟩
  | cons d l ih=>
   obtain⟨t,ht⟩:=ih;unfold cut
   split
   ·exact⟨d :: l,rfl⟩
   ·exact⟨t,by rw [List.cons_append,←ht]⟩
 refine⟨A,c,by unfold dr;rw [←e],by unfold dr;rw [←e];omega,?_⟩;unfold dr;rw [←e]
 rcases hA with h|⟨b,o,h1,h2⟩
 ·left
  have:l=[]:=by simpa using h
  rw [this];rfl
 ·right
  refine⟨b,o,h1,fun j hj=>?_⟩;rw [h2 j (by simp at hj ⊢;omega)];obtain⟨t,ht⟩:=hpre
  conv=>lhs;rw [ht]
  simp at hj
  simp [List.getD_eq_getElem?_getD,List.getElem?_append,hj]
theorem rcut_c (A:Option Addr) (l:List Nat) (c:Nat) (w:World) (hA:Cl w A (l.map i64n)) (n:Nat) (hn:l.length=n) (hc:n≤c) (hs:n≤35184372088832):Calls Tryz.prog 154 #[.slice A n c] w fun e w'=>e=.returned (.slice A (cut l).length c)∧w=w':=by
 subst hn
 go_enter Tryz.func154,Tryz.ntmps154
 go_wp2
 go_loop [3] (fun v=>∃k:Nat,k≤l.length∧v=.int .i64 (k:Int)∧cut (l.take k)=cut l) (fun v=>(intOf v).toNat)
 case atStart=>exact⟨l.length,Nat.le_refl _,rfl,by rw [List.take_length]⟩
 case round=>
  obtain⟨k,hk,rfl,hcut⟩:=hrel;have Hcut:Hid (cut (l.take k)=cut l):=hcut;clear hcut
  rcases k with _|k
  ·have h0:(0:Int)≤(c:Int):=by omega
   go_wp2
   go_ret;refine⟨?_,rfl⟩
   have e:cut l=[]:=by simpa [cut] using Hcut.out.symm
   show Ending.returned (Value.slice A 0 c)=_
   rw [e];rfl
  ·obtain⟨b,o,rfl,hcell⟩:=hA.i (by omega)
   have h0:=hcell k (by omega);have hts:=take_snoc_getD l k (by omega);have Hz:Hid (l.getD k 0=0→cut (l.take k)=cut l):=fun h=>by rw [←Hcut.out,hts,h,cut_snoc_zero]
   have Hn:Hid (l.getD k 0≠0→cut l=l.take (k+1)):=fun h=>by
    rw [←Hcut.out];exact cut_of_last (by rw [hts];simpa using h)
   have hp:(0:Int)<((k+1:Nat):Int):=by omega
   have hkc:((k+1:Nat):Int)≤(c:Int):=by omega
   have hw:IntKind.i64.wrap (((k+1:Nat):Int) - 1)=(k:Int):=(IntWalk.i64_in _ (by omega)).trans (by omega);clear hts hcell hA;generalize l.getD k 0=x at *
   by_cases hx:x=0
   ·have ht:((x:Int) == 0)=true:=by simp;omega
    clear hx;go_wp2_with fail
    go_round
    case rel=>exact⟨k,by omega,by first|rfl|(congr 1;omega),Hz.out (by simpa using ht)⟩
    case measure=>simp [intOf];try omega
   ·have ht:((x:Int) == 0)=false:=by simp;omega
    go_wp2_with fail;go_ret
    refine⟨?_,rfl⟩;rw [Hn.out hx,List.length_take,Nat.min_eq_left (by omega)]
    first|rfl|(congr 3 <;> omega)
theorem order_r (va vb:Value) (m n:Nat) (w:World) (ha:Wr w va m) (hb:Wr w vb n) (sa:Sr m) (sb:Sr n):Calls Tryz.prog 139 #[va,vb] w fun e w'=>e=.returned (.int .i64 (ordN m n))∧∃k,w'=w.drewN k:=by
 obtain⟨A,ca,rfl,hca,hA⟩:=ha;obtain⟨B,cb,rfl,hcb,hB⟩:=hb;have em:=num_dr m;have en:=num_dr n;have nm:=dr_norm m;have nn:=dr_norm n;unfold Sr at sa sb;generalize dr m=xs at *;generalize dr n=ys at *
 rcases Nat.lt_trichotomy xs.length ys.length with hl|hl|hl
 ·have hlt:m<n:=by rw [←em,←en];exact num_lt_of_length B30_two nm.lt nn hl
  have h1:decide ((xs.length:Int)<(ys.length:Int))=true:=by simp;omega
  rw [ordN_lt hlt]
  go_enter Tryz.func139,Tryz.ntmps139
  go_wp2_with fail;go_ret
  exact⟨rfl,0,rfl⟩
 ·have Hl:Hid (xs.length=ys.length):=hl
  have hne:decide ((xs.length:Int)<(ys.length:Int))=false:=by simp;omega
  have hne3:decide (xs.length<ys.length)=false:=by simp;omega
  have hne4:decide (ys.length<xs.length)=false:=by simp;omega
  have hne2:decide ((ys.length:Int)<(xs.length:Int))=false:=by simp;omega
  have hle:xs.length≤ys.length:=by omega
  have hge:ys.length≤xs.length:=by omega
  have Em:Hid (num B30 xs=m):=em;have En:Hid (num B30 ys=n):=en;clear hl em en;have hw0:IntKind.i64.wrap ((xs.length:Int) - 1)=(xs.length:Int) - 1:=IntWalk.i64_in _ (by omega)
  go_enter Tryz.func139,Tryz.ntmps139
  go_wp2_with fail
  go_loopw [5] (fun i wr=>∃k q:Nat,k≤xs.length∧i=.int .i64 ((k:Int) - 1)∧wr=w.drewN q∧xs.drop k=ys.drop k) (fun i _=>(intOf i+1).toNat)
  case atStart=>exact⟨xs.length,0,Nat.le_refl _,rfl,rfl,by rw [List.drop_of_length_le (Nat.le_refl _),List.drop_of_length_le (by omega)]⟩
  case round=>
   obtain⟨k,q,hk,rfl,rfl,hdr⟩:=hrel;have Hdr:Hid (xs.drop k=ys.drop k):=hdr;clear hdr hw0
   by_cases h0:k=0
   ·subst h0
    go_wp2_with fail;go_ret
    have e:xs=ys:=by simpa using Hdr.out
    have e1:m=n:=by rw [←Em.out,←En.out,e]
    rw [ordN_eq e1];exact⟨rfl,_,rfl⟩
   ·obtain⟨k,rfl⟩:∃j,k=j+1:=⟨k - 1,by omega⟩
    obtain⟨ba,oa,rfl,hca'⟩:=hA.i (by omega);obtain⟨bb,ob,rfl,hcb'⟩:=hB.i (by omega);have ea:=hca' k (by omega);have eb:=hcb' k (by omega);clear h0 hca' hcb' hA hB;have h1:=fun h=>num_lt_of_top nm.lt Hl.out k (by omega) Hdr.out h;have h2:=fun h=>num_lt_of_top nn.lt Hl.out.symm k (by omega) Hdr.out.symm h;have H1:Hid (xs.getD k 0<ys.getD k 0→m<n):=fun h=>by have:=h1 h;rw [Em.out,En.out] at this;exact this
    have H2:Hid (ys.getD k 0<xs.getD k 0→n<m):=fun h=>by have:=h2 h;rw [Em.out,En.out] at this;exact this
    have H3:Hid (xs.getD k 0=ys.getD k 0→xs.drop k=ys.drop k):=fun h=>drop_eq_of (by omega) (by omega) Hdr.out h;clear h1 h2;generalize xs.getD k 0=x at *;generalize ys.getD k 0=y at *
    rcases Nat.lt_trichotomy x y with hxy|hxy|hxy
    ·have t2:decide ((x:Int)<(y:Int))=true:=by simp;omega
     go_wp2_with fail
     go_quiet (fail)
     go_wp2_with fail;go_ret
     rw [ordN_lt (H1.out hxy)];exact⟨rfl,_,by first|exact drewN2 _ _ _|exact drewN3 _ _ _ _⟩
    ·subst hxy
     have t1:decide ((x:Int)<(x:Int))=false:=by simp
     go_wp2_with fail
     go_quiet (fail)
     go_wp2_with fail
     go_quiet (fail)
     go_wp2_with fail
     go_roundw
     case rel=>exact⟨k,_,by omega,by simp,by first|rfl|exact drewN2 _ _ _|exact drewN3 _ _ _ _,H3.out (by first|rfl|trivial)⟩
     case measure=>simp [intOf]
    ·have t2:decide ((x:Int)<(y:Int))=false:=by simp;omega
     have t3:decide ((y:Int)<(x:Int))=true:=by simp;omega
     go_wp2_with fail
     go_quiet (fail)
     go_wp2_with fail
     go_quiet (fail)
     go_wp2_with fail;go_ret
     rw [ordN_gt (H2.out hxy)];exact⟨rfl,_,by first|exact drewN2 _ _ _|exact drewN3 _ _ _ _⟩
 ·have hlt:n<m:=by rw [←em,←en];exact num_lt_of_length B30_two nn.lt nm hl
  have h1:decide ((xs.length:Int)<(ys.length:Int))=false:=by simp;omega
  have h2:decide ((ys.length:Int)<(xs.length:Int))=true:=by simp;omega
  rw [ordN_gt hlt]
  go_enter Tryz.func139,Tryz.ntmps139
  go_wp2_with fail;go_ret
  exact⟨rfl,0,rfl⟩
end Go.Proofs.YtpgdefgdboijlaaGreatDoor
namespace Go.Proofs.YtpgdefgdboijlaaGreatDoor
open Go.RowKit
theorem info_i64:(Tryz.prog.info? 2).map (fun i=>(i.zero,i.size,i.bytes))=some (some (.int .i64 0),1,8):=by kernel_rfl
theorem mk_digits (n:Nat) (z:Int) (hz:z=(n:Int)) (hn:n≤35184372088832) (w:World):(Instr.makeSlice 29 (.int .i64 z) (.int .i64 z)).run Tryz.prog w=.ok (.slice (some ⟨w.heap.size,0,none⟩) n n) (w.alloc (.cells ((zs n).map i64n).toArray 2)):=by
 subst hz;obtain⟨i,hi,h1,h2,h3⟩:=info_parts info_i64;have h:=run_make (P:=Tryz.prog) w 29 2 i (.int .i64 0) Tryz.underlying29 hi h1 .i64 .i64 (n:Int) (n:Int) (by omega) (Int.le_refl _) (by rw [h3];omega) (by omega);rw [h]
 have e:madeCells (Value.int .i64 0).cells (n*i.size)=((zs n).map i64n).toArray:=by
  rw [h2,Nat.mul_one]
  have:=toList_madeCells_one (.int .i64 0) n
  have h':(madeCells (Value.int .i64 0).cells n).toList=(zs n).map i64n:=by
   rw [show (Value.int .i64 0).cells=#[Value.int .i64 0] from rfl,this];simp [zs,i64n]
  rw [←h']
 simp only [Int.toNat_natCast,e]
def BkI (w:World) (g:Nat) (l:List Nat):Prop:=w.heap[g]?=some (.cells (l.map i64n).toArray 2 (0,0))
theorem BkI.lt {w:World} {g:Nat} {l:List Nat} (h:BkI w g l):g<w.heap.size:=lt_of_block h
theorem BkI.cell {w:World} {g:Nat} {l:List Nat} (h:BkI w g l) (i:Nat) (hi:i<l.length):w.cell? ⟨g,i,none⟩=some (.int .i64 ((l.getD i 0:Nat):Int)):=by
 rw [cell_of_row w g i _ _ _ h];simp [hi,i64n,List.getD_eq_getElem?_getD]
theorem BkI.frozen {w:World} {g:Nat} {l:List Nat} (h:BkI w g l) (i:Nat):w.frozen? ⟨g,i,none⟩=false:=frozen_of_row w g i _ _ h
theorem BkI.new (w:World) (l:List Nat):BkI (w.alloc (.cells (l.map i64n).toArray 2)) w.heap.size l:=heap_alloc_new w _
theorem BkI.set_ {w:World} {g:Nat} {l:List Nat} (h:BkI w g l) (i v:Nat):BkI (w.setCell ⟨g,i,none⟩ (.int .i64 (v:Int))) g (l.set i v):=by
 unfold BkI at h ⊢
 simp only [World.setCell,Array.getElem?_modify,h]
 simp [List.map_set,i64n]
theorem BkI.ext {w w':World} {g:Nat} {l:List Nat} (h:BkI w g l) (k:Ext w w'):BkI w' g l:=(k.block g h.lt).trans h
theorem BkI.cl {w:World} {g:Nat} {l:List Nat} (h:BkI w g l):Cl w (some ⟨g,0,none⟩) (l.map i64n):=
 cl_block h (fun j hj=>by simp [List.getD_eq_getElem?_getD] at hj ⊢;simp [hj])
theorem split30 (s:Nat):∃d c:Nat,d<B30∧d+B30*c=s∧d=s % 1073741824∧c=s / 1073741824:=
 ⟨s % B30,s / B30,Nat.mod_lt _ (by rw [B30_eq];omega),Nat.mod_add_div s B30,rfl,rfl⟩
theorem plus_le (A B:Option Addr) (la lb:List Nat) (ca cb:Nat) (w:World) (n m:Nat) (hn:la.length=n) (hm:lb.length=m) (hA:Cl w A (la.map i64n)) (hB:Cl w B (lb.map i64n)) (hla:∀d ∈ la,d<B30) (hlb:∀d ∈ lb,d<B30) (hle:(m≤n)) (hs:n≤2199023255552):Calls Tryz.prog 118 #[.slice A n ca,.slice B m cb] w fun e w'=>∃v,e=.returned v∧Wr w' v (num B30 la+num B30 lb)∧Ext w w':=by
 have Hn:Hid (la.length=n):=hn;have Hm:Hid (lb.length=m):=hm;have Hla:=ZZ hla;have Hlb:=ZZ hlb;have hmk:=mk_digits (n+1) ((n:Int)+1) (by omega) (by omega);have hw0:IntKind.i64.wrap ((n:Int)+1)=(n:Int)+1:=IntWalk.i64_in _ (by omega);have hc1:decide ((n:Int)<(m:Int))=false:=by simp;omega
 have hc2:decide (n<m)=false:=by simp;omega
 have Hle:=ZZ hle;clear hn hm hla hlb
 go_enter Tryz.func118,Tryz.ntmps118
 go_wp2_with fail;clear hw0 hc1
 go_loopw [6,7] (fun c i wr=>∃(k cy:Nat) (r:List Nat),k≤n∧i=.int .i64 k∧c=.int .i64 cy∧cy≤1∧r.length=n+1∧(∀d ∈ r,d<B30)∧BkI wr w.heap.size r∧Below w.heap.size w wr∧num B30 (r.take k)+B30 ^ k*cy=num B30 (la.take k)+num B30 (lb.take k)) (fun _ i _=>n - (intOf i).toNat)
 case atStart=>exact⟨0,0,zs (n+1),Nat.zero_le _,rfl,rfl,by omega,zs_length _,zs_lt (by rw [B30_eq];omega) _,BkI.new _ _,ab _ _,by simp⟩
 case round=>
  clear hmk;obtain⟨k,cy,r,hk,rfl,rfl,hcy,hr,hrl,hbk,hbel,hnum⟩:=hrel;have Hr:Hid (r.length=n+1):=hr;have Hrl:=ZZ hrl;have Hbk:Hid (BkI wr w.heap.size r):=hbk;have Hnum:=ZZ hnum;clear hr hrl hnum hbk
  by_cases hlt:k<n
  ·have hci:=Hbk.out.cell k (by rw [Hr.out];omega)
   have hfi:=Hbk.out.frozen k;have hxl:=getD_lt Hla.out (by rw [B30_eq];omega) k;have Htx:=ZZ (num_take_le B30 la k);have Hty:=ZZ (num_take_le B30 lb k);rw [B30_eq] at hxl;obtain⟨ba,oa,rfl,hca'⟩:=hA.i (by rw [Hn.out];omega);have ea:=aq hbel (hca' k (by rw [Hn.out];omega));clear hca' hA;generalize hgx:la.getD k 0=x at *;clear hgx;obtain⟨s1,hs1⟩:∃s1:Nat,s1=cy+x:=⟨_,rfl⟩;have hw1:IntKind.i64.wrap ((cy:Int)+(x:Int))=(s1:Int):=(IntWalk.i64_in _ (by omega)).trans (by omega)
   by_cases hkm:k<m
   ·obtain⟨bb,ob,rfl,hcb'⟩:=hB.i (by rw [Hm.out];omega)
    have eb:=aq hbel (hcb' k (by rw [Hm.out];omega));have hyl:=getD_lt Hlb.out (by rw [B30_eq];omega) k;rw [B30_eq] at hyl;clear hcb' hB;generalize hgy:lb.getD k 0=y at *;clear hgy;obtain⟨s,hs2⟩:∃s:Nat,s=s1+y:=⟨_,rfl⟩;have hw2:IntKind.i64.wrap ((s1:Int)+(y:Int))=(s:Int):=(IntWalk.i64_in _ (by omega)).trans (by omega);obtain⟨d,c',hd,hdc,hd1,hc1'⟩:=split30 s;have hrem:(s:Int) % 1073741824=(d:Int):=by omega
    have hquo:(s:Int) / 1073741824=(c':Int):=by omega
    have hsb:s≤4294967296:=by omega
    have hcb:c'≤4294967296:=by omega
    have hwq:IntKind.i64.wrap (c':Int)=(c':Int):=IntWalk.i64_in _ (by rw [hc1'];omega);have hwd:IntKind.i64.wrap (d:Int)=(d:Int):=IntWalk.i64_in _ (by rw [hd1];omega);have hwk:IntKind.i64.wrap ((k:Int)+1)=((k+1:Nat):Int):=(IntWalk.i64_in _ (by omega)).trans (by omega);have Hc':=ZZ (show c'≤1 by rw [hc1'];omega);have Hst:=ZZ (add_step (s:=d) (c':=c') (B:=B30) Hnum.out (x:=x) (y:=y) (c:=cy) (by rw [hdc];omega));have Hd:=ZZ hd;have Hset:=ZZ (Hbk.out.set_ k d)
    have Hrel:=ZZ (show num B30 ((r.set k d).take (k+1))+B30 ^ (k+1)*c'=num B30 (la.take (k+1))+num B30 (lb.take (k+1)) by
     rw [num_set_take _ _ _ _ (by rw [Hr.out];omega),Htx.out,Hty.out,Nat.pow_succ];exact Hst.out)
    clear hd1 hc1' hdc hd Hst hs2 hs1;go_wp2_with fail
    go_roundw
    case rel=>exact⟨k+1,c',r.set k d,by omega,by first|rfl|go_num,rfl,Hc'.out,by rw [List.length_set,Hr.out],set_lt Hrl.out Hd.out k,Hset.out,hbel.setCell (Nat.le_refl _) _,Hrel.out⟩
    case measure=>simp [intOf];omega
   ·have ey:lb.getD k 0=0:=by rw [List.getD_eq_getElem?_getD,List.getElem?_eq_none (by rw [Hm.out];omega)];rfl
    rw [ey] at Hty;clear ey;obtain⟨s,hs2⟩:∃s:Nat,s=s1:=⟨_,rfl⟩;obtain⟨d,c',hd,hdc,hd1,hc1'⟩:=split30 s;have hrem:(s1:Int) % 1073741824=(d:Int):=by omega
    have hquo:(s1:Int) / 1073741824=(c':Int):=by omega
    have hsb:s1≤4294967296:=by omega
    have hcb:c'≤4294967296:=by omega
    have hwq:IntKind.i64.wrap (c':Int)=(c':Int):=IntWalk.i64_in _ (by rw [hc1'];omega);have hwd:IntKind.i64.wrap (d:Int)=(d:Int):=IntWalk.i64_in _ (by rw [hd1];omega);have hwk:IntKind.i64.wrap ((k:Int)+1)=((k+1:Nat):Int):=(IntWalk.i64_in _ (by omega)).trans (by omega);have Hc':=ZZ (show c'≤1 by rw [hc1'];omega);have Hst:=ZZ (add_step (s:=d) (c':=c') (B:=B30) Hnum.out (x:=x) (y:=0) (c:=cy) (by rw [hdc];omega));have Hd:=ZZ hd;have Hset:=ZZ (Hbk.out.set_ k d)
    have Hrel:=ZZ (show num B30 ((r.set k d).take (k+1))+B30 ^ (k+1)*c'=num B30 (la.take (k+1))+num B30 (lb.take (k+1)) by
     rw [num_set_take _ _ _ _ (by rw [Hr.out];omega),Htx.out,Hty.out,Nat.pow_succ];exact Hst.out)
    clear hd1 hc1' hdc hd Hst hs2 hs1;go_wp2_with fail
    go_roundw
    case rel=>exact⟨k+1,c',r.set k d,by omega,by first|rfl|go_num,rfl,Hc'.out,by rw [List.length_set,Hr.out],set_lt Hrl.out Hd.out k,Hset.out,hbel.setCell (Nat.le_refl _) _,Hrel.out⟩
    case measure=>simp [intOf];omega
  ·have hkn:k=n:=by omega
   subst hkn;have hci:=Hbk.out.cell k (by rw [Hr.out];omega);have hfi:=Hbk.out.frozen k;have Hset:=ZZ (Hbk.out.set_ k cy);have Hcy:Hid (cy<B30):=by show _<_;rw [B30_eq];omega
   have HC:=ZZ Hset.out.cl;go_wp2_with fail;refine(rcut_c _ (r.set k cy) _ _ HC.out (k+1) (by rw [List.length_set,Hr.out]) (by omega) (by omega)).mono ?_;rintro e w2 ⟨rfl,rfl⟩;go_wp2_with fail;go_ret;refine⟨_,rfl,?_,hbel.setCell (Nat.le_refl _) _⟩;have h1:=Hnum.out;rw [num_take_all B30 la (by rw [Hn.out];omega),num_take_all B30 lb (by rw [Hm.out];have:=Hle.out;omega)] at h1;have h2:=rcut_w (set_lt Hrl.out Hcy.out k) HC.out (c:=k+1) (by rw [List.length_set,Hr.out];omega);rw [←h1,←num_set_take B30 r k cy (by rw [Hr.out];omega),num_take_all _ _ (by rw [List.length_set,Hr.out];omega)];exact h2
theorem plus_gt (A B:Option Addr) (la lb:List Nat) (ca cb:Nat) (w:World) (n m:Nat) (hn:la.length=n) (hm:lb.length=m) (hA:Cl w A (la.map i64n)) (hB:Cl w B (lb.map i64n)) (hla:∀d ∈ la,d<B30) (hlb:∀d ∈ lb,d<B30) (hle:(m<n)) (hs:n≤2199023255552):Calls Tryz.prog 118 #[.slice B m cb,.slice A n ca] w fun e w'=>∃v,e=.returned v∧Wr w' v (num B30 la+num B30 lb)∧Ext w w':=by
 have Hn:Hid (la.length=n):=hn;have Hm:Hid (lb.length=m):=hm;have Hla:=ZZ hla;have Hlb:=ZZ hlb;have hmk:=mk_digits (n+1) ((n:Int)+1) (by omega) (by omega);have hw0:IntKind.i64.wrap ((n:Int)+1)=(n:Int)+1:=IntWalk.i64_in _ (by omega);have hc1:decide ((m:Int)<(n:Int))=true:=by simp;omega
 have hc2:decide (m<n)=true:=by simp;omega
 have Hle:=ZZ hle;clear hn hm hla hlb
 go_enter Tryz.func118,Tryz.ntmps118
 go_wp2_with fail;clear hw0 hc1
 go_loopw [6,7] (fun c i wr=>∃(k cy:Nat) (r:List Nat),k≤n∧i=.int .i64 k∧c=.int .i64 cy∧cy≤1∧r.length=n+1∧(∀d ∈ r,d<B30)∧BkI wr w.heap.size r∧Below w.heap.size w wr∧num B30 (r.take k)+B30 ^ k*cy=num B30 (la.take k)+num B30 (lb.take k)) (fun _ i _=>n - (intOf i).toNat)
 case atStart=>exact⟨0,0,zs (n+1),Nat.zero_le _,rfl,rfl,by omega,zs_length _,zs_lt (by rw [B30_eq];omega) _,BkI.new _ _,ab _ _,by simp⟩
 case round=>
  clear hmk;obtain⟨k,cy,r,hk,rfl,rfl,hcy,hr,hrl,hbk,hbel,hnum⟩:=hrel;have Hr:Hid (r.length=n+1):=hr;have Hrl:=ZZ hrl;have Hbk:Hid (BkI wr w.heap.size r):=hbk;have Hnum:=ZZ hnum;clear hr hrl hnum hbk
  by_cases hlt:k<n
  ·have hci:=Hbk.out.cell k (by rw [Hr.out];omega)
   have hfi:=Hbk.out.frozen k;have hxl:=getD_lt Hla.out (by rw [B30_eq];omega) k;have Htx:=ZZ (num_take_le B30 la k);have Hty:=ZZ (num_take_le B30 lb k);rw [B30_eq] at hxl;obtain⟨ba,oa,rfl,hca'⟩:=hA.i (by rw [Hn.out];omega);have ea:=aq hbel (hca' k (by rw [Hn.out];omega));clear hca' hA;generalize hgx:la.getD k 0=x at *;clear hgx;obtain⟨s1,hs1⟩:∃s1:Nat,s1=cy+x:=⟨_,rfl⟩;have hw1:IntKind.i64.wrap ((cy:Int)+(x:Int))=(s1:Int):=(IntWalk.i64_in _ (by omega)).trans (by omega)
   by_cases hkm:k<m
   ·obtain⟨bb,ob,rfl,hcb'⟩:=hB.i (by rw [Hm.out];omega)
    have eb:=aq hbel (hcb' k (by rw [Hm.out];omega));have hyl:=getD_lt Hlb.out (by rw [B30_eq];omega) k;rw [B30_eq] at hyl;clear hcb' hB;generalize hgy:lb.getD k 0=y at *;clear hgy;obtain⟨s,hs2⟩:∃s:Nat,s=s1+y:=⟨_,rfl⟩;have hw2:IntKind.i64.wrap ((s1:Int)+(y:Int))=(s:Int):=(IntWalk.i64_in _ (by omega)).trans (by omega);obtain⟨d,c',hd,hdc,hd1,hc1'⟩:=split30 s;have hrem:(s:Int) % 1073741824=(d:Int):=by omega
    have hquo:(s:Int) / 1073741824=(c':Int):=by omega
    have hsb:s≤4294967296:=by omega
    have hcb:c'≤4294967296:=by omega
    have hwq:IntKind.i64.wrap (c':Int)=(c':Int):=IntWalk.i64_in _ (by rw [hc1'];omega);have hwd:IntKind.i64.wrap (d:Int)=(d:Int):=IntWalk.i64_in _ (by rw [hd1];omega);have hwk:IntKind.i64.wrap ((k:Int)+1)=((k+1:Nat):Int):=(IntWalk.i64_in _ (by omega)).trans (by omega);have Hc':=ZZ (show c'≤1 by rw [hc1'];omega);have Hst:=ZZ (add_step (s:=d) (c':=c') (B:=B30) Hnum.out (x:=x) (y:=y) (c:=cy) (by rw [hdc];omega));have Hd:=ZZ hd;have Hset:=ZZ (Hbk.out.set_ k d)
    have Hrel:=ZZ (show num B30 ((r.set k d).take (k+1))+B30 ^ (k+1)*c'=num B30 (la.take (k+1))+num B30 (lb.take (k+1)) by
     rw [num_set_take _ _ _ _ (by rw [Hr.out];omega),Htx.out,Hty.out,Nat.pow_succ];exact Hst.out)
    clear hd1 hc1' hdc hd Hst hs2 hs1;go_wp2_with fail
    go_roundw
    case rel=>exact⟨k+1,c',r.set k d,by omega,by first|rfl|go_num,rfl,Hc'.out,by rw [List.length_set,Hr.out],set_lt Hrl.out Hd.out k,Hset.out,hbel.setCell (Nat.le_refl _) _,Hrel.out⟩
    case measure=>simp [intOf];omega
   ·have ey:lb.getD k 0=0:=by rw [List.getD_eq_getElem?_getD,List.getElem?_eq_none (by rw [Hm.out];omega)];rfl
    rw [ey] at Hty;clear ey;obtain⟨s,hs2⟩:∃s:Nat,s=s1:=⟨_,rfl⟩;obtain⟨d,c',hd,hdc,hd1,hc1'⟩:=split30 s;have hrem:(s1:Int) % 1073741824=(d:Int):=by omega
    have hquo:(s1:Int) / 1073741824=(c':Int):=by omega
    have hsb:s1≤4294967296:=by omega
    have hcb:c'≤4294967296:=by omega
    have hwq:IntKind.i64.wrap (c':Int)=(c':Int):=IntWalk.i64_in _ (by rw [hc1'];omega);have hwd:IntKind.i64.wrap (d:Int)=(d:Int):=IntWalk.i64_in _ (by rw [hd1];omega);have hwk:IntKind.i64.wrap ((k:Int)+1)=((k+1:Nat):Int):=(IntWalk.i64_in _ (by omega)).trans (by omega);have Hc':=ZZ (show c'≤1 by rw [hc1'];omega);have Hst:=ZZ (add_step (s:=d) (c':=c') (B:=B30) Hnum.out (x:=x) (y:=0) (c:=cy) (by rw [hdc];omega));have Hd:=ZZ hd;have Hset:=ZZ (Hbk.out.set_ k d)
    have Hrel:=ZZ (show num B30 ((r.set k d).take (k+1))+B30 ^ (k+1)*c'=num B30 (la.take (k+1))+num B30 (lb.take (k+1)) by
     rw [num_set_take _ _ _ _ (by rw [Hr.out];omega),Htx.out,Hty.out,Nat.pow_succ];exact Hst.out)
    clear hd1 hc1' hdc hd Hst hs2 hs1;go_wp2_with fail
    go_roundw
    case rel=>exact⟨k+1,c',r.set k d,by omega,by first|rfl|go_num,rfl,Hc'.out,by rw [List.length_set,Hr.out],set_lt Hrl.out Hd.out k,Hset.out,hbel.setCell (Nat.le_refl _) _,Hrel.out⟩
    case measure=>simp [intOf];omega
  ·have hkn:k=n:=by omega
   subst hkn;have hci:=Hbk.out.cell k (by rw [Hr.out];omega);have hfi:=Hbk.out.frozen k;have Hset:=ZZ (Hbk.out.set_ k cy);have Hcy:Hid (cy<B30):=by show _<_;rw [B30_eq];omega
   have HC:=ZZ Hset.out.cl;go_wp2_with fail;refine(rcut_c _ (r.set k cy) _ _ HC.out (k+1) (by rw [List.length_set,Hr.out]) (by omega) (by omega)).mono ?_;rintro e w2 ⟨rfl,rfl⟩;go_wp2_with fail;go_ret;refine⟨_,rfl,?_,hbel.setCell (Nat.le_refl _) _⟩;have h1:=Hnum.out;rw [num_take_all B30 la (by rw [Hn.out];omega),num_take_all B30 lb (by rw [Hm.out];have:=Hle.out;omega)] at h1;have h2:=rcut_w (set_lt Hrl.out Hcy.out k) HC.out (c:=k+1) (by rw [List.length_set,Hr.out];omega);rw [←h1,←num_set_take B30 r k cy (by rw [Hr.out];omega),num_take_all _ _ (by rw [List.length_set,Hr.out];omega)];exact h2
theorem plus_r (va vb:Value) (m n:Nat) (w:World) (ha:Wr w va m) (hb:Wr w vb n) (sa:Sr m) (sb:Sr n):Calls Tryz.prog 118 #[va,vb] w fun e w'=>∃v,e=.returned v∧Wr w' v (m+n)∧Ext w w':=by
 obtain⟨A,ca,rfl,hca,hA⟩:=ha;obtain⟨B,cb,rfl,hcb,hB⟩:=hb;unfold Sr at sa sb
 by_cases h:(dr n).length≤(dr m).length
 ·have h:=plus_le A B (dr m) (dr n) ca cb w _ _ rfl rfl hA hB (dr_lt m) (dr_lt n) h (by omega)
  rwa [num_dr,num_dr] at h
 ·have h:=plus_gt B A (dr n) (dr m) cb ca w _ _ rfl rfl hB hA (dr_lt n) (dr_lt m) (by omega) (by omega)
  rw [num_dr,num_dr,Nat.add_comm] at h;exact h
end Go.Proofs.YtpgdefgdboijlaaGreatDoor
namespace Go.Proofs.YtpgdefgdboijlaaGreatDoor
open Go.RowKit
def Fr (B:Nat) (v:Value):Prop:=∀b,v.ownBlock=some b→B≤b
theorem BkI.drewN {w:World} {g:Nat} {l:List Nat} (h:BkI w g l) (q:Nat):BkI (w.drewN q) g l:=h
theorem small_r (n:Nat) (hn:n<1152921504606846976) (w:World):Calls Tryz.prog 150 #[.int .i64 n] w fun e w'=>∃v,e=.returned v∧Wr w' v n∧Ext w w':=by
 obtain⟨d,c,hd,hdc,hd1,hc1⟩:=split30 n;rw [B30_eq] at hd;have hrem:(n:Int) % 1073741824=(d:Int):=by omega
 have hquo:(n:Int) / 1073741824=(c:Int):=by omega
 have hcb:c<1073741824:=by omega
 have hc:Cl (w.alloc (.cells #[.int .i64 (d:Int),.int .i64 (c:Int)] 2)) (some ⟨w.heap.size,0,none⟩) ([d,c].map i64n):=cl_new w [i64n d,i64n c] 2;have hw:=rcut_w (l:=[d,c]) (by intro x hx;simp at hx;rw [B30_eq];omega) hc (Nat.le_refl 2);have H:=ZZ hc;have H2:=ZZ hw;have H3:=ZZ hdc;clear hc hw hd1 hc1 hdc
 go_enter Tryz.func150,Tryz.ntmps150
 go_wp2_with fail;refine(rcut_c _ [d,c] _ _ H.out 2 rfl (by omega) (by omega)).mono ?_
 rintro e w' ⟨rfl,rfl⟩;go_wp2_with fail;go_ret;refine⟨_,rfl,?_,ab _ _⟩
 have:=H2.out
 rw [show num B30 [d,c]=n by simp;exact H3.out] at this;exact this
theorem whole_r (n:Nat) (hn:n<9223372036854775808) (w:World):Calls Tryz.prog 119 #[.int .i64 n] w fun e w'=>∃v,e=.returned v∧Wr w' v n∧Ext w w':=by
 obtain⟨d,c,hd,hdc,hd1,hc1⟩:=split30 n;obtain⟨d2,c2,hd2,hdc2,hd12,hc12⟩:=split30 c;rw [B30_eq] at hd hd2;have hrem:(n:Int) % 1073741824=(d:Int):=by omega
 have hquo:(n:Int) / 1073741824=(c:Int):=by omega
 have hrem2:(c:Int) % 1073741824=(d2:Int):=by omega
 have hquo2:(c:Int) / 1073741824=(c2:Int):=by omega
 have hcb:c<9223372036854775808:=by omega
 have hcb2:c2<1073741824:=by omega
 have hc:Cl (w.alloc (.cells #[.int .i64 (d:Int),.int .i64 (d2:Int),.int .i64 (c2:Int)] 2)) (some ⟨w.heap.size,0,none⟩) ([d,d2,c2].map i64n):=cl_new w [i64n d,i64n d2,i64n c2] 2;have hw:=rcut_w (l:=[d,d2,c2]) (by intro x hx;simp at hx;rw [B30_eq];omega) hc (Nat.le_refl 3);have H:=ZZ hc;have H2:=ZZ hw;have H3:=ZZ (show d+B30*(d2+B30*c2)=n by rw [hdc2,hdc]);clear hc hw hd1 hc1 hdc hd12 hc12 hdc2
 go_enter Tryz.func119,Tryz.ntmps119
 go_wp2_with fail;refine(rcut_c _ [d,d2,c2] _ _ H.out 3 rfl (by omega) (by omega)).mono ?_
 rintro e w' ⟨rfl,rfl⟩;go_wp2_with fail;go_ret;refine⟨_,rfl,?_,ab _ _⟩
 have:=H2.out
 rw [show num B30 [d,d2,c2]=n by simp;exact H3.out] at this;exact this
theorem minus_l (A B:Option Addr) (la lb:List Nat) (ca cb:Nat) (w:World) (n m:Nat) (hn:la.length=n) (hm:lb.length=m) (hA:Cl w A (la.map i64n)) (hB:Cl w B (lb.map i64n)) (hla:∀d ∈ la,d<B30) (hlb:∀d ∈ lb,d<B30) (hle:m≤n) (hnm:num B30 lb≤num B30 la) (hs:n≤2199023255552):Calls Tryz.prog 140 #[.slice A n ca,.slice B m cb] w fun e w'=>∃v,e=.returned v∧Wr w' v (num B30 la - num B30 lb)∧Ext w w'∧Fr w.heap.size v:=by
 have Hn:Hid (la.length=n):=hn;have Hm:Hid (lb.length=m):=hm;have Hla:=ZZ hla;have Hlb:=ZZ hlb;have hmk:=mk_digits n (n:Int) rfl (by omega);have Hle:=ZZ hle;have Hnm:=ZZ hnm;clear hn hm hla hlb hnm
 go_enter Tryz.func140,Tryz.ntmps140
 go_wp2_with fail
 go_loopw [6,7] (fun c i wr=>∃(k ls:Nat) (r:List Nat),k≤n∧i=.int .i64 k∧c=.int .i64 ls∧ls≤1∧r.length=n∧(∀d ∈ r,d<B30)∧BkI wr w.heap.size r∧Below w.heap.size w wr∧num B30 (r.take k)+num B30 (lb.take k)=num B30 (la.take k)+B30 ^ k*ls) (fun _ i _=>n - (intOf i).toNat)
 case atStart=>exact⟨0,0,zs n,Nat.zero_le _,rfl,rfl,by omega,zs_length _,zs_lt (by rw [B30_eq];omega) _,BkI.new _ _,ab _ _,by simp⟩
 case round=>
  clear hmk;obtain⟨k,ls,r,hk,rfl,rfl,hls,hr,hrl,hbk,hbel,hnum⟩:=hrel;have Hr:Hid (r.length=n):=hr;have Hrl:=ZZ hrl;have Hbk:Hid (BkI wr w.heap.size r):=hbk;have Hnum:=ZZ hnum;clear hr hrl hnum hbk
  by_cases hlt:k<n
  ·have hci:=Hbk.out.cell k (by rw [Hr.out];omega)
   have hfi:=Hbk.out.frozen k;have hxl:=getD_lt Hla.out (by rw [B30_eq];omega) k;have Htx:=ZZ (num_take_le B30 la k);have Hty:=ZZ (num_take_le B30 lb k);rw [B30_eq] at hxl;obtain⟨ba,oa,rfl,hca'⟩:=hA.i (by rw [Hn.out];omega);have ea:=aq hbel (hca' k (by rw [Hn.out];omega));clear hca' hA;generalize hgx:la.getD k 0=x at *;clear hgx;have hwk:IntKind.i64.wrap ((k:Int)+1)=((k+1:Nat):Int):=(IntWalk.i64_in _ (by omega)).trans (by omega);obtain⟨D1,hD1⟩:∃D1:Int,D1=(x:Int) - (ls:Int):=⟨_,rfl⟩;have hw1:IntKind.i64.wrap ((x:Int) - (ls:Int))=D1:=(IntWalk.i64_in _ (by omega)).trans (by omega)
   by_cases hkm:k<m
   ·obtain⟨bb,ob,rfl,hcb'⟩:=hB.i (by rw [Hm.out];omega)
    have eb:=aq hbel (hcb' k (by rw [Hm.out];omega));have hyl:=getD_lt Hlb.out (by rw [B30_eq];omega) k;rw [B30_eq] at hyl;clear hcb' hB;generalize hgy:lb.getD k 0=y at *;clear hgy;obtain⟨D2,hD2⟩:∃D2:Int,D2=D1 - (y:Int):=⟨_,rfl⟩;have hw2:IntKind.i64.wrap (D1 - (y:Int))=D2:=(IntWalk.i64_in _ (by omega)).trans (by omega)
    by_cases hng:D2<0
    ·have hneg:decide (D2<0)=true:=decide_eq_true hng
     obtain⟨s,hs⟩:∃s:Nat,(s:Int)=D2+1073741824:=⟨(D2+1073741824).toNat,by omega⟩;have hw3:IntKind.i64.wrap (D2+1073741824)=(s:Int):=(IntWalk.i64_in _ (by omega)).trans (by omega);have Hd:=ZZ (show s<B30 by rw [B30_eq];omega);have Hst:=ZZ (sub_step (s:=s) (c':=1) (B:=B30) Hnum.out (x:=x) (y:=y) (c:=ls) (by rw [B30_eq];omega));have Hset:=ZZ (Hbk.out.set_ k s)
     have Hrel:=ZZ (show num B30 ((r.set k s).take (k+1))+num B30 (lb.take (k+1))=num B30 (la.take (k+1))+B30 ^ (k+1)*1 by
      rw [num_set_take _ _ _ _ (by rw [Hr.out];omega),Htx.out,Hty.out,Nat.pow_succ];exact Hst.out)
     clear hng Hst hs hD1 hD2;go_wp2_with fail
     go_roundw
     case rel=>exact⟨k+1,1,r.set k s,by omega,by first|rfl|go_num,rfl,by omega,by rw [List.length_set,Hr.out],set_lt Hrl.out Hd.out k,Hset.out,hbel.setCell (Nat.le_refl _) _,Hrel.out⟩
     case measure=>simp [intOf];omega
    ·obtain⟨s,hs⟩:∃s:Nat,(s:Int)=D2:=⟨(D2).toNat,by omega⟩
     have hneg:decide ((s:Int)<0)=false:=decide_eq_false (by omega);have Hd:=ZZ (show s<B30 by rw [B30_eq];omega);have Hst:=ZZ (sub_step (s:=s) (c':=0) (B:=B30) Hnum.out (x:=x) (y:=y) (c:=ls) (by rw [B30_eq];omega));have Hset:=ZZ (Hbk.out.set_ k s)
     have Hrel:=ZZ (show num B30 ((r.set k s).take (k+1))+num B30 (lb.take (k+1))=num B30 (la.take (k+1))+B30 ^ (k+1)*0 by
      rw [num_set_take _ _ _ _ (by rw [Hr.out];omega),Htx.out,Hty.out,Nat.pow_succ];exact Hst.out)
     clear hng Hst  hD1 hD2;subst hs;go_wp2_with fail
     go_roundw
     case rel=>exact⟨k+1,0,r.set k s,by omega,by first|rfl|go_num,rfl,by omega,by rw [List.length_set,Hr.out],set_lt Hrl.out Hd.out k,Hset.out,hbel.setCell (Nat.le_refl _) _,Hrel.out⟩
     case measure=>simp [intOf];omega
   ·have ey:lb.getD k 0=0:=by rw [List.getD_eq_getElem?_getD,List.getElem?_eq_none (by rw [Hm.out];omega)];rfl
    rw [ey] at Hty;clear ey
    by_cases hng:D1<0
    ·have hneg:decide (D1<0)=true:=decide_eq_true hng
     obtain⟨s,hs⟩:∃s:Nat,(s:Int)=D1+1073741824:=⟨(D1+1073741824).toNat,by omega⟩;have hw3:IntKind.i64.wrap (D1+1073741824)=(s:Int):=(IntWalk.i64_in _ (by omega)).trans (by omega);have Hd:=ZZ (show s<B30 by rw [B30_eq];omega);have Hst:=ZZ (sub_step (s:=s) (c':=1) (B:=B30) Hnum.out (x:=x) (y:=0) (c:=ls) (by rw [B30_eq];omega));have Hset:=ZZ (Hbk.out.set_ k s)
     have Hrel:=ZZ (show num B30 ((r.set k s).take (k+1))+num B30 (lb.take (k+1))=num B30 (la.take (k+1))+B30 ^ (k+1)*1 by
      rw [num_set_take _ _ _ _ (by rw [Hr.out];omega),Htx.out,Hty.out,Nat.pow_succ];exact Hst.out)
     clear hng Hst hs hD1;go_wp2_with fail
     go_roundw
     case rel=>exact⟨k+1,1,r.set k s,by omega,by first|rfl|go_num,rfl,by omega,by rw [List.length_set,Hr.out],set_lt Hrl.out Hd.out k,Hset.out,hbel.setCell (Nat.le_refl _) _,Hrel.out⟩
     case measure=>simp [intOf];omega
    ·obtain⟨s,hs⟩:∃s:Nat,(s:Int)=D1:=⟨(D1).toNat,by omega⟩
     have hneg:decide ((s:Int)<0)=false:=decide_eq_false (by omega);have Hd:=ZZ (show s<B30 by rw [B30_eq];omega);have Hst:=ZZ (sub_step (s:=s) (c':=0) (B:=B30) Hnum.out (x:=x) (y:=0) (c:=ls) (by rw [B30_eq];omega));have Hset:=ZZ (Hbk.out.set_ k s)
     have Hrel:=ZZ (show num B30 ((r.set k s).take (k+1))+num B30 (lb.take (k+1))=num B30 (la.take (k+1))+B30 ^ (k+1)*0 by
      rw [num_set_take _ _ _ _ (by rw [Hr.out];omega),Htx.out,Hty.out,Nat.pow_succ];exact Hst.out)
     clear hng Hst  hD1;subst hs;go_wp2_with fail
     go_roundw
     case rel=>exact⟨k+1,0,r.set k s,by omega,by first|rfl|go_num,rfl,by omega,by rw [List.length_set,Hr.out],set_lt Hrl.out Hd.out k,Hset.out,hbel.setCell (Nat.le_refl _) _,Hrel.out⟩
     case measure=>simp [intOf];omega
  ·have hkn:k=n:=by omega
   subst hkn;have HC:=ZZ Hbk.out.cl;go_wp2_with fail;refine(rcut_c _ r _ _ HC.out k Hr.out (by omega) (by omega)).mono ?_;rintro e w2 ⟨rfl,rfl⟩;go_wp2_with fail;go_ret;refine⟨_,rfl,?_,hbel,fun b hb=>by cases hb;exact Nat.le_refl _⟩;have h1:=Hnum.out;rw [num_take_all B30 la (by rw [Hn.out];omega),num_take_all B30 lb (by rw [Hm.out];have:=Hle.out;omega),num_take_all B30 r (by rw [Hr.out];omega)] at h1;have h3:=num_lt B30 r Hrl.out;rw [Hr.out] at h3;have h4:=Hnm.out
   have h5:ls=0:=by
    rcases(show ls=0∨ls=1 by omega) with h|h
    ·exact h
    ·subst h;rw [Nat.mul_one] at h1;omega
   subst h5;have h2:=rcut_w Hrl.out HC.out (c:=k) (by rw [Hr.out];omega);rw [show num B30 la - num B30 lb=num B30 r by rw [Nat.mul_zero] at h1;omega];exact h2
theorem minus_f (va vb:Value) (m n:Nat) (w:World) (ha:Wr w va m) (hb:Wr w vb n) (sa:Sr m) (hle:n≤m):Calls Tryz.prog 140 #[va,vb] w fun e w'=>∃v,e=.returned v∧Wr w' v (m - n)∧Ext w w'∧Fr w.heap.size v:=by
 obtain⟨A,ca,rfl,hca,hA⟩:=ha;obtain⟨B,cb,rfl,hcb,hB⟩:=hb;unfold Sr at sa
 have hl:(dr n).length≤(dr m).length:=by
  rcases Nat.lt_or_ge (dr m).length (dr n).length with h|h
  ·have:=num_lt_of_length B30_two (dr_lt m) (dr_norm n) h
   rw [num_dr,num_dr] at this;omega
  ·exact h
 have h:=minus_l A B (dr m) (dr n) ca cb w _ _ rfl rfl hA hB (dr_lt m) (dr_lt n) hl (by rw [num_dr,num_dr];exact hle) (by omega)
 rwa [num_dr,num_dr] at h
theorem minus_r (va vb:Value) (m n:Nat) (w:World) (ha:Wr w va m) (hb:Wr w vb n) (sa:Sr m) (hle:n≤m):Calls Tryz.prog 140 #[va,vb] w fun e w'=>∃v,e=.returned v∧Wr w' v (m - n)∧Ext w w':=
 (minus_f va vb m n w ha hb sa hle).mono fun e w' ⟨v,h1,h2,h3,_⟩=>⟨v,h1,h2,h3⟩
theorem times_bound {x y o cy s d c:Nat} (hx:x<1073741824) (hy:y<1073741824) (ho:o<1073741824) (hc:cy<1073741824) (hs:s=cy+x*y+o) (hd:d+B30*c=s):c<1073741824∧s<1152921504606846976:=by
 have h1:x*y≤1073741823*1073741823:=Nat.mul_le_mul (by omega) (by omega);rw [B30_eq] at hd;omega
theorem times_l (A B:Option Addr) (la lb:List Nat) (ca cb:Nat) (w:World) (n m:Nat) (hn:la.length=n) (hm:lb.length=m) (hA:Cl w A (la.map i64n)) (hB:Cl w B (lb.map i64n)) (hla:∀d ∈ la,d<B30) (hlb:∀d ∈ lb,d<B30) (hs:n+m≤2199023255552):Calls Tryz.prog 125 #[.slice A n ca,.slice B m cb] w fun e w'=>∃v,e=.returned v∧Wr w' v (num B30 la*num B30 lb)∧Ext w w'∧Fr w.heap.size v:=by
 have Hn:Hid (la.length=n):=hn;have Hm:Hid (lb.length=m):=hm;have Hla:=ZZ hla;have Hlb:=ZZ hlb;have hmk:=mk_digits (n+m) ((n:Int)+(m:Int)) (by omega) (by omega);clear hn hm hla hlb
 go_enter Tryz.func125,Tryz.ntmps125
 go_wp2_with fail
 go_loopw [6] (fun i wr=>∃(k:Nat) (r:List Nat),k≤n∧i=.int .i64 k∧r.length=n+m∧(∀d ∈ r,d<B30)∧BkI wr w.heap.size r∧Below w.heap.size w wr∧num B30 r=num B30 (la.take k)*num B30 lb∧∀j,k+m≤j→r.getD j 0=0) (fun i _=>n - (intOf i).toNat)
 case atStart=>exact⟨0,zs (n+m),Nat.zero_le _,rfl,zs_length _,zs_lt (by rw [B30_eq];omega) _,BkI.new _ _,ab _ _,by simp [zs,num_replicate_zero],fun j _=>by
   simp [zs,List.getD_eq_getElem?_getD,List.getElem?_replicate];split <;> rfl⟩
 case round=>
  clear hmk;obtain⟨k,r,hk,rfl,hr,hrl,hbk,hbel,hnum,hz⟩:=hrel;obtain⟨wo,rfl⟩:∃wo:World,wo=wr:=⟨_,rfl⟩;have Hr:Hid (r.length=n+m):=hr;have Hrl:=ZZ hrl;have Hbk:Hid (BkI wo w.heap.size r):=hbk;have Hnum:=ZZ hnum;have Hz:=ZZ hz;clear hr hrl hnum hbk hz
  by_cases hlt:k<n
  ·obtain⟨ba,oa,rfl,hca'⟩:=hA.i (by rw [Hn.out];omega)
   have HEA:=ZZ (hca' k (by rw [Hn.out];omega));have hxl:=getD_lt Hla.out (by rw [B30_eq];omega) k;have Htk:Hid (num B30 (la.take (k+1))=num B30 (la.take k)+B30 ^ k*la.getD k 0):=num_take_le _ _ _;clear hca' hA;rw [B30_eq] at hxl;generalize la.getD k 0=x at *;go_wp2_with fail
   go_loopw [7,8] (fun c j wr=>∃(t cy:Nat) (r:List Nat),t≤m∧j=.int .i64 t∧c=.int .i64 cy∧cy<B30∧r.length=n+m∧(∀d ∈ r,d<B30)∧BkI wr w.heap.size r∧Below w.heap.size w wr∧num B30 r+B30 ^ k*B30 ^ t*cy=num B30 (la.take k)*num B30 lb+B30 ^ k*x*num B30 (lb.take t)∧∀j,k+m≤j→r.getD j 0=0) (fun _ j _=>m - (intOf j).toNat)
   case atStart=>exact⟨0,0,r,Nat.zero_le _,rfl,rfl,by rw [B30_eq];omega,Hr.out,Hrl.out,Hbk.out,hbel,by rw [Hnum.out];simp,Hz.out⟩
   case round=>
    clear Hr Hrl Hbk Hnum Hz hbel;obtain⟨t,cy,r,ht,rfl,rfl,hcy,hr,hrl,hbk,hbel,hnum,hz⟩:=hrel;have Hr:Hid (r.length=n+m):=hr;have Hrl:=ZZ hrl;have Hbk:Hid (BkI wr w.heap.size r):=hbk;have Hnum:=ZZ hnum;have Hz:=ZZ hz;clear hr hrl hnum hbk hz;rw [B30_eq] at hcy
    by_cases hltm:t<m
    ·obtain⟨bb,ob,rfl,hcb'⟩:=hB.i (by rw [Hm.out];omega)
     have ea:=aq hbel HEA.out;have eb:=aq hbel (hcb' t (by rw [Hm.out];omega));have hyl:=getD_lt Hlb.out (by rw [B30_eq];omega) t;have Htt:Hid (num B30 (lb.take (t+1))=num B30 (lb.take t)+B30 ^ t*lb.getD t 0):=num_take_le _ _ _;clear hcb' hB;rw [B30_eq] at hyl;generalize lb.getD t 0=y at *;have hci:=Hbk.out.cell (k+t) (by rw [Hr.out];omega);have hfi:=Hbk.out.frozen (k+t);have hol:=getD_lt Hrl.out (by rw [B30_eq];omega) (k+t);have hns:=fun s=>num_set B30 r (k+t) s (by rw [Hr.out];omega);have Hns:=ZZ hns;clear hns;rw [B30_eq] at hol;generalize r.getD (k+t) 0=o at *;obtain⟨p,hp⟩:∃p:Nat,p=x*y:=⟨_,rfl⟩;obtain⟨s1,hs1⟩:∃s1:Nat,s1=cy+p:=⟨_,rfl⟩;obtain⟨s,hs2⟩:∃s:Nat,s=s1+o:=⟨_,rfl⟩;obtain⟨d,c',hd,hdc,hd1,hc1'⟩:=split30 s;obtain⟨hcb,hsb⟩:=times_bound hxl hyl hol hcy (by rw [hs2,hs1,hp]) hdc
     have hw1:IntKind.i64.wrap ((x:Int)*(y:Int))=(p:Int):=by
      rw [show (x:Int)*(y:Int)=(p:Int) by rw [hp];push_cast;rfl];exact IntWalk.i64_in _ (by omega)
     have hw2:IntKind.i64.wrap ((cy:Int)+(p:Int))=(s1:Int):=(IntWalk.i64_in _ (by omega)).trans (by omega);have hw3:IntKind.i64.wrap ((s1:Int)+(o:Int))=(s:Int):=(IntWalk.i64_in _ (by omega)).trans (by omega);have hrem:(s:Int) % 1073741824=(d:Int):=by omega
     have hquo:(s:Int) / 1073741824=(c':Int):=by omega
     have hdb:d<1073741824:=by omega
     have hw4:IntKind.i64.wrap ((k:Int)+(t:Int))=((k+t:Nat):Int):=(IntWalk.i64_in _ (by omega)).trans (by omega);have Hd:=ZZ hd;have Hc':=ZZ (show c'<B30 by rw [B30_eq];exact hcb);have Hstep:=ZZ (show d+B30*c'=x*y+o+cy by omega);have HB:=ZZ hbel;have Hset:=ZZ (fun q:Nat=>(Hbk.out.drewN q).set_ (k+t) d);clear hd1 hc1' hdc hd hs2 hs1 hp hbel;go_wp2_with fail
     go_quiet (fail)
     go_wp2_with fail
     go_roundw
     case rel=>
      refine⟨t+1,c',r.set (k+t) d,by omega,by first|rfl|go_num,rfl,Hc'.out,by rw [List.length_set,Hr.out],set_lt Hrl.out Hd.out _,Hset.out _,(al HB.out (aA _ _)).setCell (Nat.le_refl _) _,?_,fun j hj=>by rw [getD_set_ne (by omega)];exact Hz.out j hj⟩;have h5:=Hns.out d;rw [Nat.pow_add] at h5;rw [Htt.out,Nat.pow_succ,←Nat.mul_assoc];exact mul_step Hnum.out Hstep.out h5
     case measure=>simp [intOf];omega
    ·have htm:t=m:=by omega
     subst htm;have hci:=Hbk.out.cell (k+t) (by rw [Hr.out];omega);have hfi:=Hbk.out.frozen (k+t);have Hset:=ZZ (Hbk.out.set_ (k+t) cy);have Hcy:=ZZ (show cy<B30 by rw [B30_eq];exact hcy);clear hcy;go_wp2_with fail
     go_roundw
     case rel=>
      refine⟨k+1,r.set (k+t) cy,by omega,by first|rfl|go_num,by rw [List.length_set,Hr.out],set_lt Hrl.out Hcy.out _,Hset.out,hbel.setCell (Nat.le_refl _) _,?_,fun j hj=>by rw [getD_set_ne (by omega)];exact Hz.out j (by omega)⟩;have h5:=num_set B30 r (k+t) cy (by rw [Hr.out];omega);rw [Hz.out (k+t) (Nat.le_refl _),Nat.mul_zero,Nat.add_zero,Nat.pow_add] at h5;rw [h5,Hnum.out,num_take_all B30 lb (by rw [Hm.out];omega),Htk.out,Nat.add_mul]
     case measure=>simp [intOf];omega
  ·have hkn:k=n:=by omega
   subst hkn;have Hc:=Hbk.out.cl;have HC:=ZZ Hc;clear Hc;go_wp2_with fail;refine(rcut_c _ r _ _ HC.out (k+m) Hr.out (by omega) (by omega)).mono ?_;rintro e w2 ⟨rfl,rfl⟩;go_wp2_with fail;go_ret;refine⟨_,rfl,?_,hbel,fun b hb=>Nat.le_of_eq (Option.some.inj hb)⟩
   have:=rcut_w Hrl.out HC.out (c:=k+m) (by rw [Hr.out];omega)
   rw [Hnum.out,num_take_all B30 la (by rw [Hn.out];omega)] at this;exact this
theorem times_f (va vb:Value) (m n:Nat) (w:World) (ha:Wr w va m) (hb:Wr w vb n) (sa:Sr m) (sb:Sr n):Calls Tryz.prog 125 #[va,vb] w fun e w'=>∃v,e=.returned v∧Wr w' v (m*n)∧Ext w w'∧Fr w.heap.size v:=by
 obtain⟨A,ca,rfl,hca,hA⟩:=ha;obtain⟨B,cb,rfl,hcb,hB⟩:=hb;have h:=times_l A B (dr m) (dr n) ca cb w _ _ rfl rfl hA hB (dr_lt m) (dr_lt n) (by unfold Sr at sa sb;omega)
 rwa [num_dr,num_dr] at h
theorem times_r (va vb:Value) (m n:Nat) (w:World) (ha:Wr w va m) (hb:Wr w vb n) (sa:Sr m) (sb:Sr n):Calls Tryz.prog 125 #[va,vb] w fun e w'=>∃v,e=.returned v∧Wr w' v (m*n)∧Ext w w':=
 (times_f va vb m n w ha hb sa sb).mono fun e w' ⟨v,h1,h2,h3,_⟩=>⟨v,h1,h2,h3⟩
end Go.Proofs.YtpgdefgdboijlaaGreatDoor
namespace Go.Proofs.YtpgdefgdboijlaaGreatDoor
open Go.RowKit
theorem B30_pow (k:Nat):B30 ^ k=2 ^ (30*k):=by rw [B30_eq,Nat.pow_mul]
theorem dr_top {n:Nat} (h0:0<n):(dr n).getD ((dr n).length - 1) 0<B30∧0<(dr n).getD ((dr n).length - 1) 0∧0<(dr n).length∧n=num B30 ((dr n).take ((dr n).length - 1))+B30 ^ ((dr n).length - 1)*(dr n).getD ((dr n).length - 1) 0∧num B30 ((dr n).take ((dr n).length - 1))<B30 ^ ((dr n).length - 1):=by
 have h1:=dr_norm n;have h2:dr n≠[]:=dig_ne_nil B30_two h0;have h3:0<(dr n).length:=List.length_pos_iff.2 h2;have e:=num_dr n;generalize dr n=l at *;have h4:=num_take_succ B30 l (l.length - 1) (by omega);rw [show l.length - 1+1=l.length by omega,List.take_length,e] at h4;refine⟨getD_lt h1.lt (by rw [B30_eq];omega) _,?_,h3,h4,?_⟩
 ·rcases Nat.eq_zero_or_pos (l.getD (l.length - 1) 0) with h5|h5
  ·exfalso
   apply h1.last
   rw [List.getLast?_eq_getElem?];rw [List.getD_eq_getElem?_getD] at h5;rw [List.getElem?_eq_getElem (by omega)] at h5 ⊢
   simpa using h5
  ·exact h5
 ·have:=num_lt B30 (l.take (l.length - 1)) (fun d hd=>h1.lt d (List.mem_of_mem_take hd))
  rwa [List.length_take,Nat.min_eq_left (by omega)] at this
theorem bl_top {n lo d q j:Nat} (hn:n=lo+B30 ^ q*d) (hlo:lo<B30 ^ q) (h1:d<2 ^ j) (h2:j=0∨2 ^ (j - 1)≤d) (hd:0<d):bl n=30*q+j:=by
 have hj:0<j:=by
  rcases Nat.eq_zero_or_pos j with h|h
  ·subst h;simp at h1;omega
  ·exact h
 have h2':2 ^ (j - 1)≤d:=by
  rcases h2 with h|h
  ·omega
  ·exact h
 apply bl_unique
 ·rw [Nat.pow_add,←B30_pow,hn]
  have:B30 ^ q*(d+1)≤B30 ^ q*2 ^ j:=Nat.mul_le_mul_left _ h1
  rw [Nat.mul_add,Nat.mul_one] at this;omega
 ·right
  rw [show 30*q+j - 1=30*q+(j - 1) by omega,Nat.pow_add,←B30_pow,hn]
  have:B30 ^ q*2 ^ (j - 1)≤B30 ^ q*d:=Nat.mul_le_mul_left _ h2'
  omega
theorem half_pow (d j:Nat):d / 2 ^ j / 2=d / 2 ^ (j+1):=by rw [Nat.div_div_eq_div_mul,Nat.pow_succ]
theorem length_r (va:Value) (n:Nat) (w:World) (ha:Wr w va n) (sa:Sr n):Calls Tryz.prog 166 #[va] w fun e w'=>e=.returned (.int .i64 (bl n:Nat))∧w=w':=by
 obtain⟨A,ca,rfl,hca,hA⟩:=ha;unfold Sr at sa
 rcases Nat.eq_zero_or_pos n with h0|h0
 ·subst h0
  rw [dr_zero]
  go_enter Tryz.func166,Tryz.ntmps166
  go_wp2_with fail;go_ret
  exact⟨rfl,rfl⟩
 ·obtain⟨t1,t2,t3,t4,t5⟩:=dr_top h0
  obtain⟨ba,oa,rfl,hc⟩:=hA.i t3;have ea:=hc ((dr n).length - 1) (by omega);clear hc hA;obtain⟨q,hq⟩:∃q,(dr n).length=q+1:=⟨(dr n).length - 1,by omega⟩;have hq1:(dr n).length - 1=q:=by omega
  rw [hq1] at t1 t2 t4 t5 ea;rw [hq] at sa hca ⊢;generalize (dr n).getD q 0=d at *;generalize num B30 ((dr n).take q)=lo at *;have HN:=ZZ t4;have HLO:=ZZ t5;have HD0:=ZZ t2;have HD:=ZZ t1;have hdb:d<1073741824:=by rw [←B30_eq];exact t1
  clear t1 t2 t3 t4 t5 hq hq1;have hne:(((q+1:Nat):Int) == 0)=false:=by simp;omega
  have hw0:IntKind.i64.wrap (((q+1:Nat):Int) - 1)=(q:Int):=(IntWalk.i64_in _ (by omega)).trans (by omega);have hw1:IntKind.i64.wrap (30*(q:Int))=((30*q:Nat):Int):=(IntWalk.i64_in _ (by omega)).trans (by omega)
  go_enter Tryz.func166,Tryz.ntmps166
  go_wp2_with fail
  go_loop [3,4] (fun a b=>∃j N t:Nat,j≤30∧N=30*q+j∧t=d / 2 ^ j∧a=.int .i64 (N:Int)∧b=.int .i64 (t:Int)∧(j=0∨2 ^ (j - 1)≤d)) (fun _ b=>(intOf b).toNat)
  case atStart=>exact⟨0,30*q,d,by omega,rfl,by simp,by first|rfl|simp,rfl,.inl rfl⟩
  case round=>
   obtain⟨j,N,t,hj,hN,ht,rfl,rfl,hjd⟩:=hrel;have hNb:N≤9223372036854775806:=by omega
   have HNN:=ZZ hN;clear hN hw0 hw1;have HT:=ZZ ht;have HJ:=ZZ hjd;have htb:t≤d:=by rw [ht];exact Nat.div_le_self _ _
   clear ht hjd
   by_cases h:t=0
   ·subst h
    go_wp2_with fail;go_ret
    refine⟨?_,rfl⟩
    rw [bl_top HN.out HLO.out (by
     have:=HT.out
     rcases Nat.lt_or_ge d (2 ^ j) with h|h
     ·exact h
     ·have:=Nat.div_pos h (Nat.pow_pos (show 0<2 by omega));omega) HJ.out HD0.out,←HNN.out]
    rfl
   ·have hp:decide ((0:Int)<(t:Int))=true:=by simp;omega
    obtain⟨t2,ht2⟩:∃t2,t2=t / 2:=⟨_,rfl⟩;have hq2:(t:Int) / 2=(t2:Int):=by omega
    have ht2b:t2≤1073741824:=by omega
    have HT2:=ZZ ht2;have hlt2:t2<t:=by omega
    have H2:=ZZ (show 2 ^ j≤d by
     rcases Nat.lt_or_ge d (2 ^ j) with h'|h'
     ·exact absurd (HT.out.trans (Nat.div_eq_of_lt h')) h
     ·exact h')
    have hj30:j<30:=by
     rcases Nat.lt_or_ge j 30 with h'|h'
     ·exact h'
     ·have:2 ^ 30≤2 ^ j:=Nat.pow_le_pow_right (by omega) h'
      have:=H2.out
      omega
    have hw2:IntKind.i64.wrap ((N:Int)+1)=((N+1:Nat):Int):=(IntWalk.i64_in _ (by omega)).trans (by omega);have hw3:IntKind.i64.wrap (t2:Int)=(t2:Int):=IntWalk.i64_in _ (by omega);clear ht2;go_wp2_with fail
    go_round
    case rel=>exact⟨j+1,N+1,t2,by omega,by have:=HNN.out;omega,by rw [←half_pow,←HT.out];exact HT2.out,by first|rfl|(congr 1;omega),rfl,.inr H2.out⟩
    case measure=>simp [intOf];omega
theorem short_r (va:Value) (n:Nat) (w:World) (ha:Wr w va n) (hl:(dr n).length≤2):Calls Tryz.prog 170 #[va] w fun e w'=>e=.returned (.int .i64 n)∧w=w':=by
 obtain⟨A,ca,rfl,hca,hA⟩:=ha;have en:=num_dr n;have nl:=dr_lt n;generalize dr n=l at *;have En:=ZZ en;have Nl:=ZZ nl;clear en nl;have hw0:IntKind.i64.wrap ((l.length:Int) - 1)=(l.length:Int) - 1:=IntWalk.i64_in _ (by omega)
 go_enter Tryz.func170,Tryz.ntmps170
 go_wp2_with fail
 go_loop [3,4] (fun s i=>∃k:Nat,k≤l.length∧i=.int .i64 ((k:Int) - 1)∧s=.int .i64 ((num B30 (l.drop k):Nat):Int)) (fun _ i=>(intOf i+1).toNat)
 case atStart=>exact⟨l.length,Nat.le_refl _,rfl,by rw [List.drop_of_length_le (Nat.le_refl _)];rfl⟩
 case round=>
  clear hw0;obtain⟨k,hk,rfl,rfl⟩:=hrel
  rcases k with _|k
  ·go_wp2_with fail
   go_ret;refine⟨?_,rfl⟩
   have:=En.out
   show Ending.returned (Value.int .i64 ((num B30 l:Nat):Int))=_
   rw [this]
  ·obtain⟨b,o,rfl,hc⟩:=hA.i (by omega)
   have ea:=hc k (by omega);have hx:=getD_lt Nl.out (by rw [B30_eq];omega) k
   have hdk:num B30 (l.drop k)=l.getD k 0+B30*num B30 (l.drop (k+1)):=by
    rw [List.drop_eq_getElem_cons (by omega),num_cons]
    simp [List.getD_eq_getElem?_getD,show k<l.length by omega]
   have HK:=ZZ hdk
   have hyb:num B30 (l.drop (k+1))<1073741824:=by
    have h1:=num_lt B30 (l.drop (k+1)) (fun d hd=>Nl.out d (List.mem_of_mem_drop hd));have h2:(l.drop (k+1)).length≤1:=by simp;omega
    rcases(show (l.drop (k+1)).length=0∨(l.drop (k+1)).length=1 by omega) with h3|h3
    ·rw [h3] at h1;simp at h1;omega
    ·rw [h3,Nat.pow_one] at h1;rw [←B30_eq];exact h1
   rw [B30_eq] at hx;clear hc hA hdk;generalize l.getD k 0=x at *;generalize num B30 (l.drop (k+1))=y at *;obtain⟨s,hs⟩:∃s:Nat,s=y*1073741824+x:=⟨_,rfl⟩;have hw1:IntKind.i64.wrap ((y:Int)*1073741824)=((y*1073741824:Nat):Int):=(IntWalk.i64_in _ (by omega)).trans (by omega);have hw2:IntKind.i64.wrap ((y:Int)*1073741824+(x:Int))=(s:Int):=(IntWalk.i64_in _ (by omega)).trans (by omega);have hw3:IntKind.i64.wrap (((k+1:Nat):Int) - 1 - 1)=(k:Int) - 1:=(IntWalk.i64_in _ (by omega)).trans (by omega);have Hs:=ZZ (show s=num B30 (l.drop k) by rw [HK.out,B30_eq];omega);clear hs;go_wp2_with fail
   go_round
   case rel=>exact⟨k,by omega,by first|rfl|simp,by rw [←Hs.out]⟩
   case measure=>simp [intOf]
theorem zeros_end {n i j t x R:Nat} (hn:n=B30 ^ i*(x+B30*R)) (hx:x=2 ^ j*t) (hxb:x<B30) (h0:0<t) (ht:t % 2=1):∃u,n=2 ^ (30*i+j)*u∧u % 2=1:=by
 have hj:j<30:=by
  rcases Nat.lt_or_ge j 30 with h|h
  ·exact h
  ·have h1:2 ^ 30≤2 ^ j:=Nat.pow_le_pow_right (by omega) h
   have h2:2 ^ j*1≤2 ^ j*t:=Nat.mul_le_mul_left _ h0;rw [B30_eq] at hxb;omega
 refine⟨t+2 ^ (30 - j)*R,?_,?_⟩
 ·rw [hn,Nat.pow_add,←B30_pow,Nat.mul_assoc,hx]
  congr 1
  rw [Nat.mul_add,←Nat.mul_assoc,←Nat.pow_add,show j+(30 - j)=30 by omega]
  rfl
 ·rw [show 30 - j=(29 - j)+1 by omega,Nat.pow_succ,Nat.mul_assoc,Nat.mul_comm,Nat.mul_assoc]
  omega
theorem num_drop_cons {B:Nat} {l:List Nat} {k:Nat} (hk:k<l.length):num B (l.drop k)=l.getD k 0+B*num B (l.drop (k+1)):=by
 rw [List.drop_eq_getElem_cons hk,num_cons]
 simp [List.getD_eq_getElem?_getD,hk]
theorem zeros_r (va:Value) (n:Nat) (h0:0<n) (w:World) (ha:Wr w va n) (sa:Sr n):Calls Tryz.prog 169 #[va] w fun e w'=>(∃z u:Nat,e=.returned (.int .i64 z)∧n=2 ^ z*u∧u % 2=1)∧w=w':=by
 obtain⟨A,ca,rfl,hca,hA⟩:=ha;unfold Sr at sa;have en:=num_dr n;have nl:=dr_lt n;generalize dr n=l at *
 have hl0:0<l.length:=by
  rcases Nat.eq_zero_or_pos l.length with h|h
  ·rw [List.length_eq_zero_iff.1 h] at en;simp at en;omega
  ·exact h
 obtain⟨b,o,rfl,hc⟩:=hA.i hl0;have En:=ZZ en;have Nl:=ZZ nl;have HC:=ZZ hc;have H0:=ZZ h0;clear en nl hA hc h0
 go_enter Tryz.func169,Tryz.ntmps169
 go_wp2_with fail
 go_loop [3] (fun v=>∃i N:Nat,i<l.length∧N=30*i∧v=.int .i64 (N:Int)∧num B30 (l.take i)=0) (fun v=>30*l.length - (intOf v).toNat)
 case atStart=>exact⟨0,0,hl0,rfl,rfl,by simp⟩
 case round=>
  obtain⟨i,N,hi,hN,rfl,hz⟩:=hrel;have ea:=HC.out i hi;have hxb:=getD_lt Nl.out (by rw [B30_eq];omega) i;have HX:=ZZ hxb;have HT:=ZZ (num_take_succ B30 l i hi);have HZ:=ZZ hz;have HND:=ZZ (num_drop B30 l i (by omega));have HNC:=ZZ (num_drop_cons (B:=B30) hi);have hq:(N:Int) / 30=(i:Int):=by omega
  have hwq:IntKind.i64.wrap (i:Int)=(i:Int):=IntWalk.i64_in _ (by omega);have hw2:IntKind.i64.wrap ((N:Int)+30)=((N+30:Nat):Int):=(IntWalk.i64_in _ (by omega)).trans (by omega);have hNb:N≤9223372036854775:=by omega
  have HN:=ZZ hN;rw [B30_eq] at hxb;clear hz hl0;generalize l.getD i 0=x at *
  by_cases hx:x=0
  ·have ht:((x:Int) == 0)=true:=by simp;omega
   have hi1:i+1<l.length:=by
    rcases Nat.lt_or_ge (i+1) l.length with h|h
    ·exact h
    ·exfalso
     have h1:=HT.out;rw [num_take_all B30 l h,En.out,HZ.out,hx] at h1
     have:=H0.out
     omega
   have HT':=ZZ (show num B30 (l.take (i+1))=0 by rw [HT.out,HZ.out,hx];rfl);clear hx hN;go_wp2_with fail
   go_round
   case rel=>exact⟨i+1,N+30,hi1,by have:=HN.out;omega,by first|rfl|(congr 1;omega),HT'.out⟩
   case measure=>have:=HN.out;simp [intOf];omega
  ·have ht:((x:Int) == 0)=false:=by simp;omega
   have HX0:=ZZ hx;clear hx hN;go_wp2_with fail
   go_loop [3,4] (fun a c=>∃j t N2:Nat,N2=N+j∧a=.int .i64 (N2:Int)∧c=.int .i64 (t:Int)∧x=2 ^ j*t∧0<t∧j≤30) (fun _ c=>(intOf c).toNat)
   case atStart=>exact⟨0,x,N,rfl,rfl,rfl,by simp,by have:=HX0.out;omega,by omega⟩
   case round=>
    obtain⟨j,t,N2,hN2,rfl,rfl,hxt,ht0,hj⟩:=hrel;have HXT:=ZZ hxt;have HN2:=ZZ hN2
    have htb:t≤1073741824:=by
     have:1*t≤2 ^ j*t:=Nat.mul_le_mul_right _ (Nat.pow_pos (by omega))
     omega
    have hN2b:N2≤9223372036854776:=by omega
    clear hxt hN2
    rcases Nat.mod_two_eq_zero_or_one t with he|he
    ·obtain⟨t2,ht2⟩:∃t2,t=2*t2:=⟨t / 2,by omega⟩
     subst ht2;have hrem:(((2*t2:Nat):Int) % 2 == 0)=true:=by simp
     have hquo:((2*t2:Nat):Int) / 2=(t2:Int):=by omega
     have hw3:IntKind.i64.wrap (t2:Int)=(t2:Int):=IntWalk.i64_in _ (by omega);have hw4:IntKind.i64.wrap ((N2:Int)+1)=((N2+1:Nat):Int):=(IntWalk.i64_in _ (by omega)).trans (by omega);have HXT':=ZZ (show x=2 ^ (j+1)*t2 by rw [HXT.out,Nat.pow_succ,Nat.mul_assoc])
     have hj1:j+1≤30:=by
      rcases Nat.lt_or_ge j 30 with h'|h'
      ·exact h'
      ·have h1:2 ^ 30≤2 ^ j:=Nat.pow_le_pow_right (by omega) h'
       have h2:2 ^ j*1≤2 ^ j*(2*t2):=Nat.mul_le_mul_left _ ht0
       have:=HXT.out
       omega
     clear he;go_wp2_with fail
     go_round
     case rel=>exact⟨j+1,t2,N2+1,by have:=HN2.out;omega,by first|rfl|(congr 1;omega),by first|rfl|(congr 1;omega),HXT'.out,by omega,hj1⟩
     case measure=>simp [intOf];omega
    ·have hrem:((t:Int) % 2 == 0)=false:=by rw [beq_eq_false_iff_ne];omega
     have HE:=ZZ he;clear he;go_wp2_with fail;go_ret;have h1:=HND.out;rw [HZ.out,Nat.zero_add,HNC.out,En.out] at h1;obtain⟨u,hu1,hu2⟩:=zeros_end h1 HXT.out HX.out ht0 HE.out;have hu3:n=2 ^ N2*u:=by rw [HN2.out,HN.out];exact hu1
     first
      | exact⟨⟨N2,u,rfl,hu3,hu2⟩,rfl⟩
      | exact⟨⟨N2,rfl,u,hu3,hu2⟩,rfl⟩
end Go.Proofs.YtpgdefgdboijlaaGreatDoor
namespace Go.Proofs.YtpgdefgdboijlaaGreatDoor
open Go.RowKit
theorem pow_split (e:Nat) (h:e<30):∃F G:Nat,F=2 ^ e∧0<F∧0<G∧F*G=B30∧F≤536870912∧G=1073741824 / F:=by
 refine⟨2 ^ e,2 ^ (30 - e),rfl,Nat.pow_pos (by omega),Nat.pow_pos (by omega),?_,?_,?_⟩
 ·rw [←Nat.pow_add,show e+(30 - e)=30 by omega];rfl
 ·have:2 ^ e≤2 ^ 29:=Nat.pow_le_pow_right (by omega) (by omega)
  omega
 ·have h2:2 ^ e*2 ^ (30 - e)=1073741824:=by rw [←Nat.pow_add,show e+(30 - e)=30 by omega]
  rw [←h2,Nat.mul_div_cancel_left _ (Nat.pow_pos (by omega))]
theorem right_digit {F G B x y:Nat} (hF:0<F) (hG:0<G) (hB:F*G=B) (hx:x<B):x / F+y % F*G<B:=by
 have h1:x / F<G:=Nat.div_lt_of_lt_mul (by rw [hB];exact hx);have h2:y % F<F:=Nat.mod_lt _ hF;have h3:(y % F+1)*G≤F*G:=Nat.mul_le_mul_right _ h2;rw [Nat.add_mul,Nat.one_mul] at h3;omega
theorem right_step {F G B P R V x0 x y:Nat} (hB:F*G=B) (h:F*R+x0=V+P*(x % F)):F*(R+P*(x / F+y % F*G))+x0=V+P*x+P*B*(y % F):=by
 have h1:=Nat.div_add_mod x F;have h2:F*(P*(x / F+y % F*G))=P*(F*(x / F))+P*B*(y % F):=by rw [←hB];grind
 have h3:P*x=P*(F*(x / F))+P*(x % F):=by rw [←Nat.mul_add,h1]
 rw [Nat.mul_add,h2,h3];omega
theorem right_end {F R V x0:Nat} (hF:0<F) (h:F*R+x0=V) (hx:x0<F):R=V / F:=by
 rw [←h,Nat.mul_add_div hF,Nat.div_eq_of_lt hx,Nat.add_zero]
theorem right_r (va:Value) (n k:Nat) (hk:k≤35184372088832) (w:World) (ha:Wr w va n) (sa:Sr n):Calls Tryz.prog 168 #[va,.int .i64 k] w fun e w'=>∃v,e=.returned v∧Wr w' v (n / 2 ^ k)∧Ext w w':=by
 obtain⟨A,ca,rfl,hca,hA⟩:=ha;unfold Sr at sa;have en:=num_dr n;have nl:=dr_lt n;have hnn:=dr_norm n;generalize dr n=l at *;obtain⟨s,e,hse,he⟩:∃s e:Nat,k=30*s+e∧e<30:=⟨k / 30,k % 30,by omega,by omega⟩;have hq:(k:Int) / 30=(s:Int):=by omega
 have hr:(k:Int) % 30=(e:Int):=by omega
 have hwq:IntKind.i64.wrap (s:Int)=(s:Int):=IntWalk.i64_in _ (by omega);have hsb:s≤35184372088832:=by omega
 have HSE:=ZZ hse;have En:=ZZ en;have Nl:=ZZ nl;clear en nl hse
 by_cases hsl:l.length≤s
 ·have hc1:decide ((l.length:Int)≤(s:Int))=true:=by simp;omega
  have HZ:=ZZ (show n / 2 ^ k=0 by
   apply Nat.div_eq_of_lt
   have h1:=num_lt B30 l Nl.out;rw [En.out] at h1;have h2:B30 ^ l.length≤2 ^ k:=by rw [B30_pow,HSE.out];exact Nat.pow_le_pow_right (by omega) (by omega)
   omega)
  go_enter Tryz.func168,Tryz.ntmps168
  go_wp2_with fail;go_ret
  exact⟨_,rfl,by rw [HZ.out];exact Wr.zero _,ad _⟩
 ·have hc1:decide ((l.length:Int)≤(s:Int))=false:=by simp;omega
  obtain⟨b,o,rfl,hc⟩:=hA.i (by omega);obtain⟨F,G,hF,hF0,hG0,hFG,hFb,hG⟩:=pow_split e he;obtain⟨m,hm⟩:∃m,l.length=s+m:=⟨l.length - s,by omega⟩;obtain⟨y,hy⟩:∃y,y=l.drop s:=⟨_,rfl⟩;have hyl:y.length=m:=by rw [hy,List.length_drop,hm];omega
  have hyb:∀d ∈ y,d<B30:=fun d hd=>Nl.out d (by rw [hy] at hd;exact List.mem_of_mem_drop hd)
  have hcy:∀j,j<m→w.cell? ⟨b,o+s+j,none⟩=some (.int .i64 ((y.getD j 0:Nat):Int)):=fun j hj=>by
   have h1:=hc (s+j) (by omega);rw [show o+(s+j)=o+s+j by omega] at h1;rw [h1,hy]
   simp [List.getD_eq_getElem?_getD]
  have HNY:=ZZ (show n / 2 ^ k=num B30 y / F by
   have h1:=num_drop B30 l s (by omega);rw [En.out,←hy] at h1;have h2:=num_lt B30 (l.take s) (fun d hd=>Nl.out d (List.mem_of_mem_take hd));rw [List.length_take,Nat.min_eq_left (by omega)] at h2;rw [HSE.out,Nat.pow_add,←B30_pow,←Nat.div_div_eq_div_mul,←hF]
   congr 1
   rw [h1,Nat.add_comm,Nat.mul_add_div (Nat.pow_pos (by rw [B30_eq];omega)),Nat.div_eq_of_lt h2,Nat.add_zero])
  have HY:=ZZ hyl;have HYB:=ZZ hyb;have HC:=ZZ hcy;have HF:=ZZ hF;have HFG:=ZZ hFG;have hmk:=mk_digits m (m:Int) rfl (by omega);have hF':((2:Int) ^ e)=(F:Int):=by rw [hF];push_cast;rfl
  have hsh:IntKind.i64.wrap ((2:Int) ^ e)=(F:Int):=by rw [hF'];exact IntWalk.i64_in _ (by omega)
  have hmp:0<m:=by omega
  have hsc0:s+m≤ca:=by omega
  have hc2:decide ((s:Int)+(m:Int)≤(s:Int))=false:=by simp;omega
  have hc3:decide (s+m≤s)=false:=by simp;omega
  rw [hm];clear hc1 hsl;have hu:IntKind.u64.wrap (e:Int)=(e:Int):=IntWalk.u64_in _ (by omega);have hs0:(0:Int)≤(s:Int):=by omega
  have hsl':(s:Int)≤((s+m:Nat):Int):=by omega
  have hsc:((s+m:Nat):Int)≤(ca:Int):=by omega
  have hsum:s+m - s=m:=by omega
  clear hcy hyb hyl hy hc hA hF hFG hnn hF'
  go_enter Tryz.func168,Tryz.ntmps168
  go_wp2_with fail;clear hmk hc2 hc3
  go_loopw [7] (fun i wr=>∃(t:Nat) (r:List Nat),t≤m∧i=.int .i64 t∧r.length=m∧(∀d ∈ r,d<B30)∧BkI wr w.heap.size r∧Below w.heap.size w wr∧F*num B30 (r.take t)+y.getD 0 0 % F=num B30 (y.take t)+B30 ^ t*(y.getD t 0 % F)) (fun i _=>m - (intOf i).toNat)
  case atStart=>exact⟨0,zs m,Nat.zero_le _,rfl,zs_length _,zs_lt (by rw [B30_eq];omega) _,BkI.new _ _,ab _ _,by simp⟩
  case round=>
   obtain⟨t,r,ht,rfl,hr,hrl,hbk,hbel,hnum⟩:=hrel;have Hr:Hid (r.length=m):=hr;have Hrl:=ZZ hrl;have Hbk:Hid (BkI wr w.heap.size r):=hbk;have Hnum:=ZZ hnum;clear hr hrl hnum hbk
   by_cases hlt:t<m
   ·have ea:=aq hbel (HC.out t hlt)
    have hci:=Hbk.out.cell t (by rw [Hr.out];omega);have hfi:=Hbk.out.frozen t;have hxb:=getD_lt HYB.out (by rw [B30_eq];omega) t;have HX:=ZZ hxb;have HTT:=ZZ (num_take_le B30 y t);rw [B30_eq] at hxb;obtain⟨x,hx⟩:∃x,x=y.getD t 0:=⟨_,rfl⟩;rw [←hx] at ea hxb;have HXX:=ZZ hx;obtain⟨q,hq⟩:∃q,q=x / F:=⟨_,rfl⟩;have hqi:(x:Int) / (F:Int)=(q:Int):=by rw [hq];exact(Int.natCast_ediv x F).symm
    have hqb:q≤1073741824:=by rw [hq];have:=Nat.div_le_self x F;omega
    have hwq1:IntKind.i64.wrap (q:Int)=(q:Int):=IntWalk.i64_in _ (by omega);have HQ:=ZZ hq;have hF0':((F:Int) == 0)=false:=by rw [beq_eq_false_iff_ne];omega
    clear hx hq
    by_cases hl1:t+1<m
    ·obtain⟨z,hz⟩:∃z,z=y.getD (t+1) 0:=⟨_,rfl⟩
     have hzb:=getD_lt HYB.out (by rw [B30_eq];omega) (t+1);rw [←hz,B30_eq] at hzb;have HZ:=ZZ hz;obtain⟨z1,hz1⟩:∃z1,z1=z % F:=⟨_,rfl⟩;have hzi:(z:Int) % (F:Int)=(z1:Int):=by rw [hz1];exact(Int.natCast_emod z F).symm
     have hz1F:z1<F:=by rw [hz1];exact Nat.mod_lt _ hF0
     have hGi:(1073741824:Int) / (F:Int)=(G:Int):=by rw [hG];exact(Int.natCast_ediv 1073741824 F).symm
     have HVB:=right_digit (x:=x) (y:=z) hF0 hG0 HFG.out (by rw [B30_eq];exact hxb);rw [←HQ.out,←hz1,B30_eq] at HVB;have hGb:G≤1073741824:=by rw [hG];exact Nat.div_le_self _ _
     obtain⟨p,hp⟩:∃p,p=z1*G:=⟨_,rfl⟩;rw [←hp] at HVB;obtain⟨v,hv⟩:∃v,v=q+p:=⟨_,rfl⟩
     have hw5:IntKind.i64.wrap ((z1:Int)*(G:Int))=(p:Int):=by
      rw [show (z1:Int)*(G:Int)=(p:Int) by rw [hp];push_cast;rfl];exact IntWalk.i64_in _ (by omega)
     have hw6:IntKind.i64.wrap ((q:Int)+(p:Int))=(v:Int):=(IntWalk.i64_in _ (by omega)).trans (by omega);have hw7:IntKind.i64.wrap (G:Int)=(G:Int):=IntWalk.i64_in _ (by omega);have hw8:IntKind.i64.wrap ((t:Int)+1)=((t+1:Nat):Int):=(IntWalk.i64_in _ (by omega)).trans (by omega);have hvb:v<1073741824:=by omega
     have HV:=ZZ (show v=x / F+z % F*G by rw [hv,hp,hz1,HQ.out]);have HVb:=ZZ (show v<B30 by rw [B30_eq];exact hvb);have hc5:decide (((t+1:Nat):Int)<(m:Int))=true:=by simp;omega
     have hc6:decide (t+1<m)=true:=by simp;omega
     clear hv hp hz1 hz HVB hG
     go_upto_region 11 with (fail)
     have Hb2:=ZZ (Hbk.out.set_ t q);have HE2:=ZZ (show Below w.heap.size w (wr.setCell ⟨w.heap.size,t,none⟩ (.int .i64 (q:Int))) from hbel.setCell (Nat.le_refl _) _);generalize wr.setCell ⟨w.heap.size,t,none⟩ (.int .i64 (q:Int))=wx at *;have eb:=aq HE2.out (HC.out (t+1) hl1);rw [←HZ.out] at eb;have hci2:=Hb2.out.cell t (by rw [List.length_set,Hr.out];omega);rw [show (r.set t q).getD t 0=q by simp [List.getD_eq_getElem?_getD,show t<r.length by rw [Hr.out];exact hlt]] at hci2;have hfi2:=Hb2.out.frozen t;have Hb3:=ZZ (fun d:Nat=>(Hb2.out.drewN d).set_ t v);clear hci hfi ea hbel
     go_big_region
     all_goals
      go_wp2_with fail
      go_roundw
      case rel=>
       refine⟨t+1,(r.set t q).set t v,by omega,by first|rfl|go_num,by rw [List.length_set,List.length_set,Hr.out],by rw [List.set_set];exact set_lt Hrl.out HVb.out t,?_,?_,?_⟩
       ·first|exact Hb3.out 1|exact Hb2.out.set_ t v
       ·exact(al HE2.out (ac _)).setCell (Nat.le_refl _) _
       ·have h1:=Hnum.out
        rw [←HXX.out] at h1;have h2:=right_step (y:=z) HFG.out h1;rw [List.set_set,num_set_take _ _ _ _ (by rw [Hr.out];omega),HTT.out,←HXX.out,Nat.pow_succ,←HZ.out,HV.out];exact h2
      case measure=>simp [intOf];omega
    ·have hc5:decide (((t+1:Nat):Int)<(m:Int))=false:=by simp;omega
     have hc6:decide (t+1<m)=false:=by simp;omega
     have hw8:IntKind.i64.wrap ((t:Int)+1)=((t+1:Nat):Int):=(IntWalk.i64_in _ (by omega)).trans (by omega);have Hb2:=ZZ (Hbk.out.set_ t q);have HE2:=ZZ (show Below w.heap.size w (wr.setCell ⟨w.heap.size,t,none⟩ (.int .i64 (q:Int))) from hbel.setCell (Nat.le_refl _) _);have HQB:=ZZ (show q<B30 by rw [B30_eq,HQ.out];have:=Nat.div_le_self x F;omega)
     have HST:=ZZ (show F*num B30 ((r.set t q).take (t+1))+y.getD 0 0 % F=num B30 (y.take (t+1))+B30 ^ (t+1)*(y.getD (t+1) 0 % F) by
      have h1:=Hnum.out;rw [←HXX.out] at h1;have h2:=right_step (y:=0) HFG.out h1;rw [num_set_take _ _ _ _ (by rw [Hr.out];omega),HTT.out,←HXX.out,Nat.pow_succ,show y.getD (t+1) 0=0 by rw [List.getD_eq_getElem?_getD,List.getElem?_eq_none (by rw [HY.out];omega)];rfl]
      simp only [Nat.zero_mod,Nat.zero_mul,Nat.add_zero] at h2 ⊢
      rw [HQ.out];exact h2)
     go_wp2_with fail
     go_roundw
     case rel=>exact⟨t+1,r.set t q,by omega,by first|rfl|go_num,by rw [List.length_set,Hr.out],set_lt Hrl.out HQB.out t,Hb2.out,HE2.out,HST.out⟩
     case measure=>simp [intOf];omega
   ·have htm:t=m:=by omega
    subst htm;have HCL:=ZZ Hbk.out.cl;go_wp2_with fail;refine(rcut_c _ r _ _ HCL.out t Hr.out (by omega) (by omega)).mono ?_;rintro e w2 ⟨rfl,rfl⟩;go_wp2_with fail;go_ret;refine⟨_,rfl,?_,hbel⟩;have h1:=Hnum.out;rw [num_take_all B30 y (by rw [HY.out];omega),num_take_all B30 r (by rw [Hr.out];omega),show y.getD t 0=0 by rw [List.getD_eq_getElem?_getD,List.getElem?_eq_none (by rw [HY.out];omega)];rfl,Nat.zero_mod,Nat.mul_zero,Nat.add_zero] at h1;have h2:=rcut_w Hrl.out HCL.out (c:=t) (by rw [Hr.out];omega);rw [HNY.out,←right_end hF0 h1 (Nat.mod_lt _ hF0)];exact h2
end Go.Proofs.YtpgdefgdboijlaaGreatDoor
namespace Go.Proofs.YtpgdefgdboijlaaGreatDoor
open Go.RowKit
theorem mk_room (n c:Nat) (y z:Int) (hz:z=(n:Int)) (hy:y=(c:Int)) (hnc:n≤c) (hn:c≤35184372088832) (w:World):(Instr.makeSlice 29 (.int .i64 z) (.int .i64 y)).run Tryz.prog w=.ok (.slice (some ⟨w.heap.size,0,none⟩) n c) (w.alloc (.cells ((zs c).map i64n).toArray 2)):=by
 subst hz hy;obtain⟨i,hi,h1,h2,h3⟩:=info_parts info_i64;have h:=run_make (P:=Tryz.prog) w 29 2 i (.int .i64 0) Tryz.underlying29 hi h1 .i64 .i64 (n:Int) (c:Int) (by omega) (by omega) (by rw [h3];omega) (by omega);rw [h]
 have e:madeCells (Value.int .i64 0).cells (c*i.size)=((zs c).map i64n).toArray:=by
  rw [h2,Nat.mul_one]
  have:=toList_madeCells_one (.int .i64 0) c
  have h':(madeCells (Value.int .i64 0).cells c).toList=(zs c).map i64n:=by
   rw [show (Value.int .i64 0).cells=#[Value.int .i64 0] from rfl,this];simp [zs,i64n]
  rw [←h']
 simp only [Int.toNat_natCast,e]
theorem own_new (w:World) (n c:Nat) (hnc:n≤c) (hc:c≤maxLen):(w.alloc (.cells ((zs c).map i64n).toArray 2)).ownsRow w.heap.size 2 1 (.slice (some ⟨w.heap.size,0,none⟩) n c) n ((zs n).map i64n):=by
 refine⟨by simp [zs],.inr ⟨w.heap.size,c,_,rfl,Nat.le_refl _,heap_alloc_new w _,hnc,hc,by simp [zs],?_⟩⟩
 simp [zs,List.take_replicate,Nat.min_eq_left hnc]
theorem own_cl {w:World} {B n:Nat} {v:Value} {l:List Nat} (h:w.ownsRow B 2 1 v n (l.map i64n)):∃A c,v=.slice A n c∧n≤c∧l.length=n∧Cl w A (l.map i64n):=by
 obtain⟨h1,h2⟩:=h
 simp at h1
 rcases h2 with ⟨rfl,rfl⟩|⟨g,cap,cur,rfl,hb,hg,hn,hm,hs,ht⟩
 ·exact⟨none,0,rfl,Nat.le_refl _,h1,by rw [List.length_eq_zero_iff.1 h1];exact .inl rfl⟩
 ·refine⟨_,_,rfl,hn,h1,cl_block hg fun j hj=>?_⟩
  rw [Nat.mul_one] at ht;have hj':j<n:=by simp at hj;omega
  rw [←ht,List.getD_eq_getElem?_getD,List.getElem?_take,if_pos hj',Nat.zero_add,←Array.getElem?_toList]
  have:j<cur.size:=by omega
  simp [Array.getElem?_eq_getElem this]
theorem left_step {F B P R V cy x d c':Nat} (h:R+P*cy=V*F) (hs:d+B*c'=cy+x*F):(R+P*d)+P*B*c'=(V+P*x)*F:=by
 have h1:P*(d+B*c')=P*(cy+x*F):=by rw [hs]
 grind
theorem left_carry {F x cy d c':Nat} (hx:x<1073741824) (hc:cy<F) (hF:F≤536870912) (h:d+B30*c'=cy+x*F):c'<F∧cy+x*F<576460752303423488:=by
 have h1:x*F≤1073741823*F:=Nat.mul_le_mul_right _ (by omega);rw [B30_eq] at h;omega
theorem left_r (va:Value) (n k:Nat) (hk:k≤1099511627776) (w:World) (ha:Wr w va n) (sa:Sr n):Calls Tryz.prog 167 #[va,.int .i64 k] w fun e w'=>∃v,e=.returned v∧Wr w' v (n*2 ^ k)∧Ext w w':=by
 obtain⟨A,ca,rfl,hca,hA⟩:=ha;unfold Sr at sa;have en:=num_dr n;have nl:=dr_lt n;generalize dr n=l at *;obtain⟨s,e,hse,he⟩:∃s e:Nat,k=30*s+e∧e<30:=⟨k / 30,k % 30,by omega,by omega⟩;have hq:(k:Int) / 30=(s:Int):=by omega
 have hr:(k:Int) % 30=(e:Int):=by omega
 have hwq:IntKind.i64.wrap (s:Int)=(s:Int):=IntWalk.i64_in _ (by omega);have hsb:s≤1099511627776:=by omega
 have HSE:=ZZ hse;have En:=ZZ en;have Nl:=ZZ nl;clear en nl hse;obtain⟨F,G,hF,hF0,hG0,hFG,hFb,hG⟩:=pow_split e he;have hF':((2:Int) ^ e)=(F:Int):=by rw [hF];push_cast;rfl
 have hsh:IntKind.i64.wrap ((2:Int) ^ e)=(F:Int):=by rw [hF'];exact IntWalk.i64_in _ (by omega)
 have hu:IntKind.u64.wrap (e:Int)=(e:Int):=IntWalk.u64_in _ (by omega);have HF:=ZZ hF;obtain⟨i0,hi,hz0,hz1,hz2⟩:=info_parts info_i64;have hmk:=mk_room s (l.length+s+1) ((l.length:Int)+(s:Int)+1) (s:Int) rfl (by omega) (by omega) (by omega);have hw1:IntKind.i64.wrap ((l.length:Int)+(s:Int))=(l.length:Int)+(s:Int):=IntWalk.i64_in _ (by omega);have hw2:IntKind.i64.wrap ((l.length:Int)+(s:Int)+1)=(l.length:Int)+(s:Int)+1:=IntWalk.i64_in _ (by omega);clear hF hF' hFG hG hG0
 go_enter Tryz.func167,Tryz.ntmps167
 go_wp2_with fail;clear hmk hw1 hw2 hq hr hwq hsh hu
 go_loopw [5,7,8] (fun p c i wr=>∃(t cy:Nat) (xs:List Nat),t≤l.length∧i=.int .i64 t∧c=.int .i64 cy∧cy<F∧xs.length=t∧(∀d ∈ xs,d<B30)∧Hid (wr.ownsRow w.heap.size 2 1 p (s+t) ((zs s ++ xs).map i64n))∧Ext w wr∧num B30 xs+B30 ^ t*cy=num B30 (l.take t)*F) (fun _ _ i _=>l.length - (intOf i).toNat)
 case atStart=>exact⟨0,0,[],Nat.zero_le _,rfl,rfl,hF0,rfl,by simp,by simpa using ZZ (own_new w s (l.length+s+1) (by omega) (by unfold maxLen;omega)),ab _ _,by simp⟩
 case round=>
  obtain⟨t,cy,xs,ht,rfl,rfl,hcy,hxl,hxb,HOWN,hext,hnum⟩:=hrel;have Hxl:=ZZ hxl;have Hxb:=ZZ hxb;have HEX:=ZZ hext;have Hnum:=ZZ hnum;clear hxl hxb hnum hext;have H63:=ZZ (show s+t+1≤maxLen by unfold maxLen;omega);have HBY:=ZZ (show (s+t+1)*8≤140737488355328 by omega);have HWS:=ZZ (show w.heap.size≤wr.heap.size+1 from Nat.le_succ_of_le HEX.out.size);have HWZ:=ZZ (show w.heap.size≤wr.heap.size from HEX.out.size)
  by_cases hlt:t<l.length
  ·obtain⟨b,o,rfl,hc⟩:=hA.i (by omega)
   have ea:=aq HEX.out (hc t hlt);have hxb:=getD_lt Nl.out (by rw [B30_eq];omega) t;have HTT:=ZZ (num_take_le B30 l t);rw [B30_eq] at hxb;clear hc hA;generalize l.getD t 0=x at *;obtain⟨p,hp⟩:∃p:Nat,p=x*F:=⟨_,rfl⟩;obtain⟨sm,hsm⟩:∃sm:Nat,sm=cy+p:=⟨_,rfl⟩;obtain⟨d,c',hd,hdc,hd1,hc1'⟩:=split30 sm;have HDC:=ZZ (show d+B30*c'=cy+x*F by rw [hdc,hsm,hp]);obtain⟨hcb,hsb'⟩:=left_carry hxb hcy hFb HDC.out;have hsmb:sm<576460752303423488:=by rw [hsm,hp];exact hsb'
   have hw1:IntKind.i64.wrap ((x:Int)*(F:Int))=(p:Int):=by
    rw [show (x:Int)*(F:Int)=(p:Int) by rw [hp];push_cast;rfl];exact IntWalk.i64_in _ (by omega)
   have hw2:IntKind.i64.wrap ((cy:Int)+(p:Int))=(sm:Int):=(IntWalk.i64_in _ (by omega)).trans (by omega);have hrem:(sm:Int) % 1073741824=(d:Int):=by omega
   have hquo:(sm:Int) / 1073741824=(c':Int):=by omega
   have Hd:=ZZ hd;have HCB:=ZZ hcb;have hcb2:c'≤1073741824:=by omega
   rw [B30_eq] at hd
   have HST:=ZZ (show num B30 (xs ++ [d])+B30 ^ (t+1)*c'=num B30 (l.take (t+1))*F by
    rw [num_snoc,Hxl.out,HTT.out,Nat.pow_succ];exact left_step Hnum.out HDC.out)
   clear hp hsm hdc hd1 hc1' hsb'
   go_wp2_with (at_builtin;refine wpList_append_own_at _ rfl _ _ 29 rfl w.heap.size 2 i0 (.int .i64 0) 1 8 Tryz.underlying29 hi hz0 hz1 hz2 rfl (by decide) _ _ _ rfl (HOWN.out.alloc _) ⟨wr.heap.size,0,none⟩ 1 1 [.int .i64 (d:Int)] rfl rfl (cell_one_new _ _ _) (by intro u hu;simp at hu;subst hu;rfl) H63.out HBY.out (by have:=HWS.out;simpa using this) ?_;intro v' w3 hown3 hgrow hnil hloc)
   have HE3:=ZZ (show Ext w w3 from (al HEX.out (ab wr _)).grown hgrow (by have:=HWS.out;simpa using this) (fun k hk=>(own_lt HOWN.out hk).1));have HO3:=ZZ hown3;clear hown3 hgrow hnil hloc;go_wp2_with fail
   go_roundw
   case rel=>exact⟨t+1,c',xs ++ [d],by omega,by first|rfl|go_num,rfl,HCB.out,by rw [List.length_append,Hxl.out];rfl,by intro z hz;rcases List.mem_append.1 hz with h|h;exact Hxb.out z h;rw [List.mem_singleton.1 h];exact Hd.out,by have:=HO3.out;rw [←List.append_assoc,List.map_append];exact ZZ this,HE3.out,HST.out⟩
   case measure=>simp [intOf];omega
  ·have htm:t=l.length:=by omega
   go_wp2_with (at_builtin;refine wpList_append_own_at _ rfl _ _ 29 rfl w.heap.size 2 i0 (.int .i64 0) 1 8 Tryz.underlying29 hi hz0 hz1 hz2 rfl (by decide) _ _ _ rfl (HOWN.out.alloc _) ⟨wr.heap.size,0,none⟩ 1 1 [.int .i64 (cy:Int)] rfl rfl (cell_one_new _ _ _) (by intro u hu;simp at hu;subst hu;rfl) H63.out HBY.out (by have:=HWS.out;simpa using this) ?_;intro v' w3 hown3 hgrow hnil hloc)
   have HE3:=ZZ (show Ext w w3 from (al HEX.out (ab wr _)).grown hgrow (by have:=HWS.out;simpa using this) (fun k hk=>(own_lt HOWN.out hk).1));have hown4:w3.ownsRow w.heap.size 2 1 v' (s+t+1) ((zs s ++ xs ++ [cy]).map i64n):=by rw [List.map_append];exact hown3
   obtain⟨A3,c3,rfl,hn3,hl3,hcl3⟩:=own_cl hown4;have HCL:=ZZ hcl3;have HL3:=ZZ hl3;have HN3:=ZZ hn3
   have HYB:=ZZ (show ∀z ∈ zs s ++ xs ++ [cy],z<B30 from fun z hz=>by
    rcases List.mem_append.1 hz with h|h
    ·rcases List.mem_append.1 h with h|h
     ·exact zs_lt (by rw [B30_eq];omega) s z h
     ·exact Hxb.out z h
    ·rw [List.mem_singleton.1 h,B30_eq];omega)
   clear hown3 hown4 hgrow hnil hloc hn3 hl3 hcl3;go_wp2_with fail;refine(rcut_c _ (zs s ++ xs ++ [cy]) _ _ HCL.out (s+t+1) HL3.out HN3.out (by omega)).mono ?_;rintro e w2 ⟨rfl,rfl⟩;go_wp2_with fail;go_ret;refine⟨_,rfl,?_,HE3.out⟩;have h2:=rcut_w HYB.out HCL.out (c:=c3) (by rw [HL3.out];exact HN3.out);have h1:=Hnum.out;rw [num_take_all B30 l (by omega),En.out] at h1
   have h3:num B30 (zs s ++ xs ++ [cy])=n*2 ^ k:=by
    rw [List.append_assoc,num_append,show num B30 (zs s)=0 from num_replicate_zero _ _,zs_length,num_snoc,Hxl.out,h1,HSE.out,Nat.pow_add,←B30_pow,HF.out,Nat.zero_add]
    grind
   rw [h3,List.append_assoc] at h2;exact h2
end Go.Proofs.YtpgdefgdboijlaaGreatDoor
namespace Go.Proofs.YtpgdefgdboijlaaGreatDoor
open Go.RowKit
theorem Wr.set_ {w:World} {v:Value} {n g i:Nat} {x:Value} (h:Wr w v n) (hne:v.ownBlock≠some g):Wr (w.setCell ⟨g,i,none⟩ x) v n:=by
 obtain⟨A,c,rfl,hc,hcl⟩:=h;refine⟨A,c,rfl,hc,?_⟩
 rcases hcl with h|⟨b,o,rfl,h2⟩
 ·exact .inl h
 ·refine .inr ⟨b,o,rfl,fun j hj=>?_⟩
  rw [←h2 j hj]
  apply World.cell?_of_block
  exact Below.heap_setCell _ _ _ _ (by rintro rfl;exact hne rfl)
theorem guess_r {P bt N T R e dd:Nat} (hN:N<(bt+1)*P) (hT:T*P≤R) (hNR:N≤R) (he:e=T / (bt+1)) (hd:dd=max e 1):dd*N≤R∧1≤dd∧dd≤T+1:=by
 have h1:e*N≤R:=by
  have h2:e*N≤e*((bt+1)*P):=Nat.mul_le_mul_left _ (Nat.le_of_lt hN);have h3:e*(bt+1)≤T:=by rw [he];exact Nat.div_mul_le_self _ _
  have h4:e*(bt+1)*P≤T*P:=Nat.mul_le_mul_right _ h3;rw [Nat.mul_assoc] at h4;omega
 have h5:e≤T:=by rw [he];exact Nat.div_le_self _ _
 rcases(show dd=e∧1≤e∨dd=1 by omega) with ⟨h,h'⟩|h
 ·rw [h];exact⟨h1,h',by omega⟩
 ·subst h;rw [Nat.one_mul];exact⟨hNR,Nat.le_refl _,by omega⟩
theorem top_r {R p:Nat} (hl:(dr R).length≤p+2) (h1:p<(dr R).length):((dr R).getD p 0+B30*(dr R).getD (p+1) 0)*B30 ^ p≤R∧((dr R).length≤p+1→(dr R).getD (p+1) 0=0):=by
 have e:=num_dr R;generalize dr R=z at *;have h2:=num_drop B30 z p (by omega);rw [num_drop_cons (B:=B30) h1] at h2
 have h3:num B30 (z.drop (p+1))=z.getD (p+1) 0:=by
  rcases Nat.lt_or_ge (p+1) z.length with h|h
  ·rw [num_drop_cons (B:=B30) h,List.drop_of_length_le (by omega)];simp
  ·rw [List.drop_of_length_le h,List.getD_eq_getElem?_getD,List.getElem?_eq_none h];rfl
 rw [h3] at h2;refine⟨?_,fun h=>by rw [List.getD_eq_getElem?_getD,List.getElem?_eq_none h];rfl⟩;rw [←e,h2,Nat.mul_comm];exact Nat.le_add_left _ _
theorem outer_r {d R N c R' A Q:Nat} (h:A=Q*N+R) (hc:c*N+R'=d+B30*R):d+B30*A=(c+B30*Q)*N+R':=by
 rw [h,Nat.mul_add,Nat.add_mul]
 have:B30*(Q*N)=B30*Q*N:=(Nat.mul_assoc _ _ _).symm
 omega
theorem digit_room {c N R' d R dd:Nat} (hc:c*N+R'=d+B30*R) (hd:d<B30) (hR:R<N) (hdd:dd*N≤R'):c+dd<B30:=by
 rcases Nat.lt_or_ge (c+dd) B30 with h|h
 ·exact h
 ·exfalso
  have h1:B30*N≤(c+dd)*N:=Nat.mul_le_mul_right _ h;rw [Nat.add_mul] at h1;have h2:B30*(R+1)≤B30*N:=Nat.mul_le_mul_left _ hR;rw [Nat.mul_add,Nat.mul_one] at h2;omega
theorem div_final {m n S Q N:Nat} (hS:0<S) (hn:0<n) (h:Q*(n*S)+N=m*S) (hN:N<n*S):Q=m / n∧N / S=m % n:=long_end hS hn h hN
theorem news_cells {w w':World} {A:Addr} {l:List Nat} (h:Cl w (some A) (l.map i64n)) (k:Ext w w'):∀j u,(l.map i64n)[j]?=some u→w'.cell? (A.add j)=some u:=by
 intro j u hu
 rcases h with h|⟨b,o,h1,h2⟩
 ·rw [h] at hu;simp at hu
 ·cases h1
  have hj:j<(l.map i64n).length:=by
   rcases Nat.lt_or_ge j (l.map i64n).length with h|h
   ·exact h
   ·rw [List.getElem?_eq_none h] at hu;cases hu
  have h3:=aq k (h2 j hj);rw [List.getD_eq_getElem?_getD,hu] at h3;rw [show (⟨b,o,none⟩:Addr).add j=⟨b,o+j,none⟩ by unfold Addr.add;split <;> simp_all,h3]
  rfl
theorem own_one (w:World) (d:Int):(w.alloc (.cells #[.int .i64 d] 2)).ownsRow w.heap.size 2 1 (.slice (some ⟨w.heap.size,0,none⟩) 1 1) 1 [.int .i64 d]:=
 ⟨rfl,.inr ⟨_,1,_,rfl,Nat.le_refl _,heap_alloc_new w _,Nat.le_refl _,by decide,rfl,rfl⟩⟩
theorem divided_f (va vb:Value) (m n:Nat) (h0:0<n) (w:World) (ha:Wr w va m) (hb:Wr w vb n) (sa:(dr m).length≤549755813888) (sb:(dr n).length≤549755813888):Calls Tryz.prog 130 #[va,vb] w fun e w'=>∃v u,e=.returned (.tuple #[v,u])∧Wr w' v (m / n)∧Wr w' u (m % n)∧Ext w w'∧Fr w.heap.size v:=by
 have HA:=ZZ ha;have HB:=ZZ hb;have SA:=ZZ (show Sr m by unfold Sr;omega);have SB:=ZZ (show Sr n by unfold Sr;omega);have LA:=ZZ sa;have LB:=ZZ sb;have H0:=ZZ h0;clear ha hb sa sb h0
 go_enter Tryz.func130,Tryz.ntmps130
 go_wp2_with fail;refine(order_r va vb m n w HA.out HB.out SA.out SB.out).mono ?_
 rintro e w1 ⟨rfl,q1,rfl⟩
 by_cases hmn:m<n
 ·rw [ordN_lt hmn]
  have HMN:=ZZ hmn;clear hmn;go_wp2_with fail;refine bodyPost_ret (v:=.tuple #[.slice none 0 0,va]) (by simp [results,Tryz.f130]) rfl ?_;exact⟨_,_,rfl,by rw [Nat.div_eq_of_lt HMN.out];exact Wr.zero _,by rw [Nat.mod_eq_of_lt HMN.out];exact HA.out.mono (aA _ _),aA _ _,fun b hb=>by cases hb⟩
 ·obtain⟨oc,hoc,hoc'⟩:∃c,ordN m n=c∧decide (c<0)=false:=⟨_,rfl,by
   rcases Nat.lt_or_eq_of_le (Nat.le_of_not_lt hmn) with h|h
   ·rw [ordN_gt h];rfl
   ·rw [ordN_eq h.symm];rfl⟩
  rw [hoc];have HMN:=ZZ hmn;clear hoc hmn;go_wp2_with fail;refine(length_r vb n _ (HB.out.mono (aA _ _)) SB.out).mono ?_;rintro e w2 ⟨rfl,rfl⟩;obtain⟨l1,hl1,hl1b⟩:∃l1:Nat,(bl n:Int) % 30=(l1:Int)∧l1<30:=⟨bl n % 30,by omega,by omega⟩;obtain⟨sh,hsh,hshb⟩:∃sh:Nat,(30 - (l1:Int)) % 30=(sh:Int)∧sh<30:=⟨(30 - l1) % 30,by omega,by omega⟩;have hwa:IntKind.i64.wrap (30 - (l1:Int))=30 - (l1:Int):=IntWalk.i64_in _ (by omega);go_wp2_with fail;refine(left_r va m sh (by omega) _ (HA.out.mono (aA _ _)) SA.out).mono ?_;rintro e w3 ⟨vM,rfl,hM,k3⟩;have HM:=ZZ hM;have X3:=ZZ (al (aA w q1) k3);clear hM k3;go_wp2_with fail;refine(left_r vb n sh (by omega) _ (HB.out.mono X3.out) SB.out).mono ?_;rintro e w4 ⟨vN,rfl,hN,k4⟩;have HN:=ZZ hN;have HM4:=ZZ (HM.out.mono k4);have X4:=ZZ (al X3.out k4);obtain⟨AM,cM,rfl,hcM,hAM⟩:=HM4.out;obtain⟨BN,cN,rfl,hcN,hBN⟩:=hN
  have hS30:2 ^ sh<B30:=by
   have:2 ^ sh≤2 ^ 29:=Nat.pow_le_pow_right (by omega) (by omega)
   rw [B30_eq];omega
  have hlS:(dr (2 ^ sh)).length≤1:=dig_length_le B30_two (by rw [Nat.pow_one];exact hS30);have hLM:(dr (m*2 ^ sh)).length≤549755813889:=Nat.le_trans (dig_length_mul B30_two m (2 ^ sh)) (by have:=LA.out;unfold dr at this hlS;omega);have hLN:(dr (n*2 ^ sh)).length≤549755813889:=Nat.le_trans (dig_length_mul B30_two n (2 ^ sh)) (by have:=LB.out;unfold dr at this hlS;omega);have hSp:0<2 ^ sh:=Nat.pow_pos (by omega);have HSP:=ZZ hSp;have HN0:=ZZ (show 0<n*2 ^ sh from Nat.mul_pos H0.out hSp);have HFIN:=ZZ (fun Q R h hr=>div_final (m:=m) (n:=n) (Q:=Q) (N:=R) hSp H0.out h hr);have HSH:=ZZ (show sh≤35184372088832 by omega);obtain⟨t1,t2,t3,t4,t5⟩:=dr_top HN0.out;obtain⟨b,o,rfl,hcb⟩:=hBN.i t3;have HCB:=ZZ (fun j hj=>hcb j hj);obtain⟨p,hp⟩:∃p,(dr (n*2 ^ sh)).length=p+1:=⟨(dr (n*2 ^ sh)).length - 1,by omega⟩;have hp1:(dr (n*2 ^ sh)).length - 1=p:=by omega
  rw [hp1] at t1 t2 t4 t5;have HBT:=ZZ (hcb p (by omega));have em:=num_dr (m*2 ^ sh);have ml:=dr_lt (m*2 ^ sh);obtain⟨N,hNe⟩:∃N,N=n*2 ^ sh:=⟨_,rfl⟩;rw [←hNe] at t1 t2 t3 t4 t5 hp hcN HN HN0 HFIN HBT hLN ⊢;rw [hp] at hLN hcN HN ⊢;generalize hbt:(dr N).getD p 0=bt at *
  have HNB:=ZZ (show N<(bt+1)*B30 ^ p by
   rw [Nat.add_mul,Nat.one_mul,Nat.mul_comm bt];omega)
  have HP:=ZZ hp;rw [B30_eq] at t1;have SN:=ZZ (show Sr N by unfold Sr;rw [hp];omega);generalize dr (m*2 ^ sh)=ms at *;have EM:=ZZ em;have ML:=ZZ ml;have HAM:=ZZ hAM;have hmk:=mk_digits ms.length (ms.length:Int) rfl (by omega);have hwl:IntKind.i64.wrap ((ms.length:Int) - 1)=(ms.length:Int) - 1:=IntWalk.i64_in _ (by omega);clear t2 t3 t4 t5 hp hp1 em ml hAM hcb hBN hS30 hlS hSp k4 HCB hNe HM HM4 hl1 hsh hwa hbt hoc';go_wp2_with fail;clear hmk hwl;obtain⟨i0,hi,hz0,hz1,hz2⟩:=info_parts info_i64;have XW:=ZZ (show Ext w (w4.alloc (.cells ((zs ms.length).map i64n).toArray 2)) from al X4.out (ab _ _))
  go_loopw [9,10] (fun r i wr=>∃(k R:Nat) (qs:List Nat),k≤ms.length∧i=.int .i64 ((k:Int) - 1)∧qs.length=ms.length∧(∀d ∈ qs,d<B30)∧BkI wr w4.heap.size qs∧Below w4.heap.size w4 wr∧Hid (Wr wr r R)∧Hid (r.ownBlock≠some w4.heap.size)∧R<N∧num B30 (ms.drop k)=num B30 (qs.drop k)*N+R∧∀j,j<k→qs.getD j 0=0) (fun _ i _=>(intOf i+1).toNat)
  case atStart=>exact⟨ms.length,0,zs ms.length,Nat.le_refl _,rfl,zs_length _,zs_lt (by rw [B30_eq];omega) _,BkI.new _ _,ab _ _,ZZ (Wr.zero _),ZZ (by intro h;cases h),HN0.out,by
   rw [List.drop_of_length_le (Nat.le_refl _),List.drop_of_length_le (by rw [zs_length];omega)];simp,fun j _=>by
   simp [zs,List.getD_eq_getElem?_getD,List.getElem?_replicate];split <;> rfl⟩
  case round=>
   obtain⟨k,R,qs,hk,rfl,hq,hql,hbk,hbel,HW,HNE,hR,hnum,hzq⟩:=hrel;have HQ:=ZZ hq;have HQL:=ZZ hql;have HBK:Hid (BkI wr w4.heap.size qs):=hbk;have HBE:=ZZ hbel;have HR:=ZZ hR;have HNUM:=ZZ hnum;have HZQ:=ZZ hzq;clear hq hql hbk hbel hR hnum hzq
   rcases k with _|k
   ·have HCL:=ZZ HBK.out.cl
    have hRl:(dr R).length≤p+1:=by
     have:=dig_length_mono B30_two (Nat.le_of_lt HR.out)
     have h2:=HP.out;unfold dr at h2 ⊢;omega
    have SR:=ZZ (show Sr R by unfold Sr;omega);go_wp2_with fail;refine(rcut_c _ qs _ _ HCL.out ms.length HQ.out (Nat.le_refl _) (by omega)).mono ?_;rintro e w6 ⟨rfl,rfl⟩;have HWQ:=ZZ (rcut_w HQL.out HCL.out (c:=ms.length) (by rw [HQ.out];exact Nat.le_refl _));go_wp2_with fail;refine(right_r _ R sh HSH.out _ HW.out SR.out).mono ?_;rintro e w7 ⟨v7,rfl,h7,k7⟩;have h1:=HNUM.out;rw [List.drop_zero,List.drop_zero,EM.out] at h1;obtain⟨f1,f2⟩:=HFIN.out (num B30 qs) R h1.symm HR.out;have F1:=ZZ f1;rw [f2] at h7;have H7:=ZZ h7;have K7:=ZZ k7;have XF:=ZZ (show Ext w w7 from al X4.out (al HBE.out k7));clear h1 f1 f2 h7 k7;go_wp2_with fail;refine bodyPost_ret (v:=.tuple #[.slice (some ⟨w4.heap.size,0,none⟩) (cut qs).length ms.length,v7]) (by simp [results,Tryz.f130]) rfl ?_
    refine⟨_,_,rfl,?_,H7.out,XF.out,fun b hb=>by
     obtain rfl:w4.heap.size=b:=Option.some.inj hb;exact X4.out.size⟩
    rw [←F1.out];exact HWQ.out.mono K7.out
   ·rw [show (((k+1:Nat):Int) - 1)=(k:Int) by omega]
    have HCA:=ZZ (show ∃b o,AM=some ⟨b,o,none⟩∧∀j,j<ms.length→w4.cell? ⟨b,o+j,none⟩=some (.int .i64 ((ms.getD j 0:Nat):Int)) from HAM.out.i (by omega));obtain⟨bm,om,rfl,hcm⟩:=HCA.out;have ea:=aq HBE.out (hcm k (by omega));have hdb:=getD_lt ML.out (by rw [B30_eq];omega) k;have HDB:=ZZ hdb;rw [B30_eq] at hdb;have HND:=ZZ (num_drop_cons (B:=B30) (l:=ms) (k:=k) (by omega));clear hcm HCA;generalize ms.getD k 0=d at *;obtain⟨AR,cR,rfl,hcR,hclR⟩:=HW.out;have HRC:=ZZ hclR
    have hRl:(dr R).length≤p+1:=by
     have:=dig_length_mono B30_two (Nat.le_of_lt HR.out)
     unfold dr at HP ⊢;have h2:=HP.out;omega
    have H63:=ZZ (show 1+(dr R).length≤maxLen by unfold maxLen;omega);have HBY:=ZZ (show (1+(dr R).length)*8≤140737488355328 by omega);clear hclR;have HLT:=ZZ HBK.out.lt
    have HDR:=ZZ (show ∀z ∈ d :: dr R,z<B30 from fun z hz=>by
     rcases List.mem_cons.1 hz with h|h
     ·rw [h];exact HDB.out
     ·exact dr_lt R z h)
    have HNV:=ZZ (show num B30 (d :: dr R)=d+B30*R by rw [num_cons,num_dr])
    go_upto_region 11 with (fail)
    go_cut [9] (fun r wx=>Hid (Wr wx r (d+B30*R))∧Hid (r.ownBlock≠some w4.heap.size)∧Hid (Ext wr wx))
    case first=>
     rcases AR with _|AR
     ·have hR0:dr R=[]:=by
       rcases HRC.out with h|⟨b',o',h,-⟩
       ·simpa using h
       ·cases h
      have HD1:=ZZ (show [d]=d :: dr R by rw [hR0]);rw [hR0];have HCL:=ZZ (show Cl (wr.alloc (.cells #[.int .i64 (d:Int)] 2)) (some ⟨wr.heap.size,0,none⟩) ([d].map i64n) from cl_new wr [i64n d] 2);go_wp2_with fail;refine(rcut_c _ [d] _ _ HCL.out 1 rfl (Nat.le_refl _) (by omega)).mono ?_;rintro e w6 ⟨rfl,rfl⟩;have HWC:=ZZ (rcut_w (l:=[d]) (by rw [HD1.out];exact HDR.out) HCL.out (c:=1) (Nat.le_refl _));have HNV1:=HNV.out;rw [←HD1.out] at HNV1;rw [HNV1] at HWC
      have HOC:=ZZ (show (Value.slice (some ⟨wr.heap.size,0,none⟩) (cut [d]).length 1).ownBlock≠some w4.heap.size by
       have h1:=HLT.out;intro h2
       have:=Option.some.inj (show some wr.heap.size=some w4.heap.size from h2)
       omega)
      clear hR0 HNV1;go_wp2_with fail;go_meet;exact⟨HWC,HOC,ZZ (ab _ _)⟩
     ·go_wp2_with (at_builtin;refine wpList_append_own_at _ rfl _ _ 29 rfl wr.heap.size 2 i0 (.int .i64 0) 1 8 Tryz.underlying29 hi hz0 hz1 hz2 rfl (by decide) _ _ _ rfl (own_one wr d) AR _ _ ((dr R).map i64n) rfl (by simp) (news_cells HRC.out (ab _ _)) (by intro u hu;simp at hu;obtain⟨_,_,rfl⟩:=hu;rfl) H63.out HBY.out (by simp) ?_;intro v' w5 hown3 hgrow hnil hloc)
      have HE5:=ZZ (show Ext wr w5 from (ab wr _).grown hgrow (by simp) (fun k hk=>(own_lt (own_one wr d) hk).1));have hown4:w5.ownsRow wr.heap.size 2 1 v' (1+(dr R).length) ((d :: dr R).map i64n):=hown3;obtain⟨A5,c5,rfl,hn5,hl5,hcl5⟩:=own_cl hown4;have HCL:=ZZ hcl5;have HL5:=ZZ hl5;have HN5:=ZZ hn5
      have HOB:=ZZ (show (Value.slice A5 (1+(dr R).length) c5).ownBlock≠some w4.heap.size by
       have h1:=HLT.out
       rcases hloc with h|h
       ·rw [h];intro h2;have:=(own_lt (own_one wr d) h2).1;omega
       ·rw [h];intro h2;simp at h2;omega)
      clear hown3 hown4 hgrow hnil hloc hn5 hl5 hcl5;go_wp2_with fail;refine(rcut_c _ (d :: dr R) _ _ HCL.out (1+(dr R).length) HL5.out HN5.out (by omega)).mono ?_;rintro e w6 ⟨rfl,rfl⟩;have HWC:=ZZ (rcut_w HDR.out HCL.out (c:=c5) (by rw [HL5.out];exact HN5.out));rw [HNV.out] at HWC
      have HOC:=ZZ (show (Value.slice A5 (cut (d :: dr R)).length c5).ownBlock≠some w4.heap.size by
       have:=HOB.out
       cases A5 with
       | none=>intro h;cases h
       | some A=>exact this)
      go_wp2_with fail;go_meet
      exact⟨HWC,HOC,HE5⟩
    case rest=>
     obtain⟨HW6,HO6,HE6⟩:=hcut;rename World=>W6;rename Value=>v6;have HQ6:=ZZ (HBK.out.ext HE6.out);have HB6:=ZZ (show Below w4.heap.size w4 W6 from al HBE.out (by have:=HE6.out;exact this));clear HW HNE HRC H63 HBY HLT HDR HNV ea;have hqk:qs.getD k 0=0:=HZQ.out k (by omega);have HQK:=ZZ hqk;have HKL:=ZZ (show k<qs.length by rw [HQ.out];omega);clear hqk;go_wp2_with fail
     go_loopg [9] (d+B30*R) (fun gk r wx=>∃c:Nat,Hid (Wr wx r gk)∧Hid (r.ownBlock≠some w4.heap.size)∧c*N+gk=d+B30*R∧c<B30∧BkI wx w4.heap.size (qs.set k c)∧Below w4.heap.size w4 wx)
     case atStart=>exact⟨0,HW6,HO6,by omega,by rw [B30_eq];omega,by
      have h1:qs.set k 0=qs:=by
       apply List.ext_getElem (by simp)
       intro i h1 h2;rw [List.getElem_set]
       split
       ·rename_i h;subst h
        have:=HQK.out
        simp [List.getD_eq_getElem?_getD,h2] at this
        exact this.symm
       ·rfl
      rw [h1];exact HQ6.out,HB6.out⟩
     case round=>
      obtain⟨c,HWr,HOr,hc,hcb,hbk,hbel⟩:=hrel;have HC:=ZZ hc;have HCB:=ZZ hcb;have HBK7:Hid (BkI wr w4.heap.size (qs.set k c)):=hbk;have HBE7:=ZZ hbel
      have hgkN:gk<B30*N:=by
       have h2:B30*(R+1)≤B30*N:=Nat.mul_le_mul_left _ HR.out;rw [Nat.mul_add,Nat.mul_one] at h2
       have:=HDB.out
       have h3:0≤c*N:=Nat.zero_le _;omega
      have HLG:=ZZ (show (dr gk).length≤p+2 from dig_length_le B30_two (by
       have h1:=lt_dig_length B30_two N;have h2:=HP.out;unfold dr at h2;rw [h2] at h1;have h3:B30*N<B30*B30 ^ (p+1):=Nat.mul_lt_mul_of_pos_left h1 (by rw [B30_eq];omega);rw [show p+2=(p+1)+1 from rfl,Nat.pow_succ,Nat.mul_comm (B30 ^ (p+1))]
       omega))
      have SG:=ZZ (show Sr gk by have:=HLG.out;unfold Sr;omega);clear hc hcb hbk hbel hgkN;go_wp2_with fail;refine(order_r _ _ gk N _ HWr.out (HN.out.mono HBE7.out) SG.out SN.out).mono ?_;rintro e w7 ⟨rfl,q7,rfl⟩
      by_cases hlt:gk<N
      ·rw [ordN_lt hlt]
       have HLT2:=ZZ hlt;clear hlt;have hwi:IntKind.i64.wrap ((k:Int) - 1)=(k:Int) - 1:=IntWalk.i64_in _ (by omega);go_wp2_with fail
       go_roundw
       case rel=>
        refine⟨k,gk,qs.set k c,by omega,by first|rfl|simp,by rw [List.length_set];exact HQ.out,set_lt HQL.out HCB.out k,HBK7.out.drewN q7,al HBE7.out (aA _ _),ZZ (HWr.out.mono (aA _ _)),HOr,HLT2.out,?_,fun j hj=>by rw [getD_set_ne (by omega)];exact HZQ.out j (by omega)⟩;have h1:=num_drop_cons (B:=B30) (l:=qs.set k c) (k:=k) (by rw [List.length_set];exact HKL.out);rw [show (qs.set k c).getD k 0=c by simp [List.getD_eq_getElem?_getD,HKL.out],show (qs.set k c).drop (k+1)=qs.drop (k+1) from List.drop_set_of_lt (Nat.lt_succ_self k)] at h1;rw [h1,HND.out];exact outer_r HNUM.out HC.out
       case measure=>simp [intOf]
      ·obtain⟨oc,hoc,hoc'⟩:∃c,ordN gk N=c∧decide (0≤c)=true:=⟨_,rfl,by
        rcases Nat.lt_or_eq_of_le (Nat.le_of_not_lt hlt) with h|h
        ·rw [ordN_gt h];rfl
        ·rw [ordN_eq h.symm];rfl⟩
       rw [hoc];have HNG:=ZZ (Nat.le_of_not_lt hlt);clear hoc hlt
       have hlen:p<(dr gk).length:=by
        have h1:=dig_length_mono B30_two HNG.out;have h2:=HP.out;unfold dr at h2 ⊢;omega
       obtain⟨A7,c7,rfl,hc7,hcl7⟩:=HWr.out;obtain⟨b7,o7,rfl,hz7⟩:=hcl7.i (by omega);have ea:=aq (aA wr q7) (hz7 p hlen);have HZ7:=ZZ (fun h=>aq (aA wr q7) (hz7 (p+1) h));have eb:=aq (al HBE7.out (aA wr q7)) HBT.out;obtain⟨hT,hx1z⟩:=top_r HLG.out hlen;have HT:=ZZ hT;have hx0b:=getD_lt (dr_lt gk) (by rw [B30_eq];omega) p;have hx1b:=getD_lt (dr_lt gk) (by rw [B30_eq];omega) (p+1);rw [B30_eq] at hx0b hx1b;have HX1Z:=ZZ hx1z;have hwp:IntKind.i64.wrap (((p+1:Nat):Int) - 1)=(p:Int):=(IntWalk.i64_in _ (by omega)).trans (by omega);clear hcl7 hz7 hT hx1z;generalize (dr gk).getD p 0=x0 at *;generalize (dr gk).getD (p+1) 0=x1 at *;obtain⟨T,hTe⟩:∃T:Nat,T=x0+B30*x1:=⟨_,rfl⟩;have HTE:=ZZ hTe;have hTb:T≤1152921504606846975:=by rw [hTe,B30_eq];omega
       generalize hLg:(dr gk).length=lg at *;have HLg:=ZZ hLg;clear hLg
       by_cases hl2:p+1<lg
       ·have e7:=HZ7.out hl2
        have hw5:IntKind.i64.wrap ((x1:Int)*1073741824)=((x1*1073741824:Nat):Int):=(IntWalk.i64_in _ (by omega)).trans (by omega);have hw6:IntKind.i64.wrap ((x0:Int)+(x1:Int)*1073741824)=(T:Int):=by rw [hTe,B30_eq];exact(IntWalk.i64_in _ (by omega)).trans (by omega)
        clear hTe;obtain⟨b1,hb1⟩:∃b1:Nat,b1=bt+1:=⟨_,rfl⟩;have hw7:IntKind.i64.wrap ((bt:Int)+1)=(b1:Int):=(IntWalk.i64_in _ (by omega)).trans (by omega);have hb1z:((b1:Int) == 0)=false:=by rw [beq_eq_false_iff_ne];omega
        have hb1p:0<b1:=by omega
        have hb1n:¬ b1=0:=by omega
        obtain⟨e1,he1⟩:∃e1:Nat,e1=T / (bt+1):=⟨_,rfl⟩;have hqe:(T:Int) / (b1:Int)=(e1:Int):=by rw [he1,hb1];exact(Int.natCast_ediv T (bt+1)).symm
        obtain⟨dd,hdd⟩:∃dd:Nat,dd=max e1 1:=⟨_,rfl⟩;have hmx:max (e1:Int) 1=(dd:Int):=by omega
        obtain⟨hg1,hg2,hg3⟩:=guess_r HNB.out (by have:=HT.out;rw [←HTE.out] at this;exact this) HNG.out he1 hdd;have he1b:e1≤1152921504606846975:=by rw [he1];exact Nat.le_trans (Nat.div_le_self _ _) hTb
        have hwe:IntKind.i64.wrap (e1:Int)=(e1:Int):=IntWalk.i64_in _ (by omega);have HG1:=ZZ hg1;have HG2:=ZZ hg2;have hdb2:dd≤1152921504606846975:=by omega
        have HROOM:=ZZ (digit_room HC.out HDB.out HR.out hg1);have hroom:c+dd<1073741824:=by have:=HROOM.out;rw [B30_eq] at this;exact this
        have hwc:IntKind.i64.wrap ((c:Int)+(dd:Int))=((c+dd:Nat):Int):=(IntWalk.i64_in _ (by omega)).trans (by omega);have HB7:=ZZ (HBK7.out.drewN q7);have hci:=HB7.out.cell k (by rw [List.length_set];exact HKL.out);rw [show (qs.set k c).getD k 0=c by simp [List.getD_eq_getElem?_getD,HKL.out]] at hci;have hfi:=HB7.out.frozen k;have hmsl:(qs.length:Nat)=ms.length:=HQ.out;clear hb1 he1 hdd hg1 hg2 hg3;go_wp2_with fail;have HW8:=ZZ ((HWr.out.mono (aA wr q7)).set_ (i:=k) (x:=.int .i64 (((c+dd:Nat):Nat):Int)) HOr.out);have HB8:=ZZ (HB7.out.set_ k (c+dd));have HE8:=ZZ (show Below w4.heap.size w4 ((wr.drewN q7).setCell ⟨w4.heap.size,k,none⟩ (.int .i64 (((c+dd:Nat):Nat):Int))) from (al HBE7.out (aA wr q7)).setCell (Nat.le_refl _) _);have hpc:((c+dd:Nat):Int)=(c:Int)+(dd:Int):=by omega
        rw [hpc] at HW8 HB8 HE8;clear hpc;generalize (wr.drewN q7).setCell ⟨w4.heap.size,k,none⟩ (.int .i64 ((c:Int)+(dd:Int)))=W8 at *;refine(small_r dd (by omega) _).mono ?_;rintro e w8 ⟨v8,rfl,h8,k8⟩;have H8:=ZZ h8;have K8:=ZZ k8;clear h8 k8
        have SD:=ZZ (show Sr dd by
         unfold Sr;exact Nat.le_trans (dig_length_le B30_two (k:=2) (by rw [B30_eq];omega)) (by omega))
        go_wp2_with fail;refine(times_r _ v8 N dd _ (HN.out.mono (al HE8.out K8.out)) H8.out SN.out SD.out).mono ?_
        rintro e w9 ⟨v9,rfl,h9,k9⟩;have H9:=ZZ h9;have K9:=ZZ (al K8.out k9);clear h9 k9;go_wp2_with fail;refine(minus_f _ v9 gk (N*dd) _ (HW8.out.mono K9.out) H9.out SG.out (by rw [Nat.mul_comm];exact HG1.out)).mono ?_;rintro e w10 ⟨v10,rfl,h10,k10,hfr⟩
        have HNE10:=ZZ (show v10.ownBlock≠some w4.heap.size from fun h=>by
         have h1:=hfr _ h;have h2:=HB8.out.lt;have h3:=K9.out.size
         omega)
        have HE10:=ZZ (al HE8.out (al K9.out k10));have HB10:=ZZ (HB8.out.ext (al K9.out k10));have H10:=ZZ h10;clear h10 k10 hfr;go_wp2_with fail
        go_roundg (gk - N*dd)
        case measure=>
         have h1:=HG2.out;have h2:=HG1.out;have h3:=HN0.out;have h4:N*1≤N*dd:=Nat.mul_le_mul_left _ h1;rw [Nat.mul_comm dd N] at h2;omega
        case rel=>
         refine⟨c+dd,H10,HNE10,?_,HROOM.out,by have:=HB10.out;rw [List.set_set] at this;exact this,HE10.out⟩;have h1:=HC.out;have h2:=HG1.out;rw [Nat.mul_comm dd N] at h2;rw [Nat.add_mul,Nat.mul_comm dd N];omega
       ·have hx1:x1=0:=HX1Z.out (by omega)
        have hT0:T=x0:=by rw [hTe,hx1];omega
        clear hTe hx1;subst hT0;obtain⟨b1,hb1⟩:∃b1:Nat,b1=bt+1:=⟨_,rfl⟩;have hw7:IntKind.i64.wrap ((bt:Int)+1)=(b1:Int):=(IntWalk.i64_in _ (by omega)).trans (by omega);have hb1z:((b1:Int) == 0)=false:=by rw [beq_eq_false_iff_ne];omega
        have hb1p:0<b1:=by omega
        have hb1n:¬ b1=0:=by omega
        obtain⟨e1,he1⟩:∃e1:Nat,e1=T / (bt+1):=⟨_,rfl⟩;have hqe:(T:Int) / (b1:Int)=(e1:Int):=by rw [he1,hb1];exact(Int.natCast_ediv T (bt+1)).symm
        obtain⟨dd,hdd⟩:∃dd:Nat,dd=max e1 1:=⟨_,rfl⟩;have hmx:max (e1:Int) 1=(dd:Int):=by omega
        obtain⟨hg1,hg2,hg3⟩:=guess_r HNB.out (by have:=HT.out;rw [←HTE.out] at this;exact this) HNG.out he1 hdd;have he1b:e1≤1152921504606846975:=by rw [he1];exact Nat.le_trans (Nat.div_le_self _ _) hTb
        have hwe:IntKind.i64.wrap (e1:Int)=(e1:Int):=IntWalk.i64_in _ (by omega);have HG1:=ZZ hg1;have HG2:=ZZ hg2;have hdb2:dd≤1152921504606846975:=by omega
        have HROOM:=ZZ (digit_room HC.out HDB.out HR.out hg1);have hroom:c+dd<1073741824:=by have:=HROOM.out;rw [B30_eq] at this;exact this
        have hwc:IntKind.i64.wrap ((c:Int)+(dd:Int))=((c+dd:Nat):Int):=(IntWalk.i64_in _ (by omega)).trans (by omega);have HB7:=ZZ (HBK7.out.drewN q7);have hci:=HB7.out.cell k (by rw [List.length_set];exact HKL.out);rw [show (qs.set k c).getD k 0=c by simp [List.getD_eq_getElem?_getD,HKL.out]] at hci;have hfi:=HB7.out.frozen k;have hmsl:(qs.length:Nat)=ms.length:=HQ.out;clear hb1 he1 hdd hg1 hg2 hg3;go_wp2_with fail;have HW8:=ZZ ((HWr.out.mono (aA wr q7)).set_ (i:=k) (x:=.int .i64 (((c+dd:Nat):Nat):Int)) HOr.out);have HB8:=ZZ (HB7.out.set_ k (c+dd));have HE8:=ZZ (show Below w4.heap.size w4 ((wr.drewN q7).setCell ⟨w4.heap.size,k,none⟩ (.int .i64 (((c+dd:Nat):Nat):Int))) from (al HBE7.out (aA wr q7)).setCell (Nat.le_refl _) _);have hpc:((c+dd:Nat):Int)=(c:Int)+(dd:Int):=by omega
        rw [hpc] at HW8 HB8 HE8;clear hpc;generalize (wr.drewN q7).setCell ⟨w4.heap.size,k,none⟩ (.int .i64 ((c:Int)+(dd:Int)))=W8 at *;refine(small_r dd (by omega) _).mono ?_;rintro e w8 ⟨v8,rfl,h8,k8⟩;have H8:=ZZ h8;have K8:=ZZ k8;clear h8 k8
        have SD:=ZZ (show Sr dd by
         unfold Sr;exact Nat.le_trans (dig_length_le B30_two (k:=2) (by rw [B30_eq];omega)) (by omega))
        go_wp2_with fail;refine(times_r _ v8 N dd _ (HN.out.mono (al HE8.out K8.out)) H8.out SN.out SD.out).mono ?_
        rintro e w9 ⟨v9,rfl,h9,k9⟩;have H9:=ZZ h9;have K9:=ZZ (al K8.out k9);clear h9 k9;go_wp2_with fail;refine(minus_f _ v9 gk (N*dd) _ (HW8.out.mono K9.out) H9.out SG.out (by rw [Nat.mul_comm];exact HG1.out)).mono ?_;rintro e w10 ⟨v10,rfl,h10,k10,hfr⟩
        have HNE10:=ZZ (show v10.ownBlock≠some w4.heap.size from fun h=>by
         have h1:=hfr _ h;have h2:=HB8.out.lt;have h3:=K9.out.size
         omega)
        have HE10:=ZZ (al HE8.out (al K9.out k10));have HB10:=ZZ (HB8.out.ext (al K9.out k10));have H10:=ZZ h10;clear h10 k10 hfr;go_wp2_with fail
        go_roundg (gk - N*dd)
        case measure=>
         have h1:=HG2.out;have h2:=HG1.out;have h3:=HN0.out;have h4:N*1≤N*dd:=Nat.mul_le_mul_left _ h1;rw [Nat.mul_comm dd N] at h2;omega
        case rel=>
         refine⟨c+dd,H10,HNE10,?_,HROOM.out,by have:=HB10.out;rw [List.set_set] at this;exact this,HE10.out⟩;have h1:=HC.out;have h2:=HG1.out;rw [Nat.mul_comm dd N] at h2;rw [Nat.add_mul,Nat.mul_comm dd N];omega
theorem divided_r (va vb:Value) (m n:Nat) (h0:0<n) (w:World) (ha:Wr w va m) (hb:Wr w vb n) (sa:(dr m).length≤549755813888) (sb:(dr n).length≤549755813888):Calls Tryz.prog 130 #[va,vb] w fun e w'=>∃v u,e=.returned (.tuple #[v,u])∧Wr w' v (m / n)∧Wr w' u (m % n)∧Ext w w':=
 (divided_f va vb m n h0 w ha hb sa sb).mono fun e w' ⟨v,u,h1,h2,h3,h4,_⟩=>⟨v,u,h1,h2,h3,h4⟩
end Go.Proofs.YtpgdefgdboijlaaGreatDoor
namespace Go.Proofs.YtpgdefgdboijlaaGreatDoor
open Go.RowKit
theorem odd_cop {u:Nat} (hu:u % 2=1) (j:Nat):Nat.Coprime (2 ^ j) u:=by
 apply Nat.Coprime.pow_left
 show Nat.gcd 2 u=1
 rw [Nat.gcd_rec,hu]
 rfl
theorem gcd_two {i k u v:Nat} (hu:u % 2=1) (hv:v % 2=1):Nat.gcd (2 ^ i*u) (2 ^ k*v)=Nat.gcd u v*2 ^ min i k:=by
 rcases Nat.le_total i k with h|h
 ·obtain⟨j,rfl⟩:∃j,k=i+j:=⟨k - i,by omega⟩
  rw [Nat.pow_add,Nat.mul_assoc,Nat.gcd_mul_left,Nat.Coprime.gcd_mul_left_cancel_right v (odd_cop hu j),Nat.min_eq_left h,Nat.mul_comm]
 ·obtain⟨j,rfl⟩:∃j,i=k+j:=⟨i - k,by omega⟩
  rw [Nat.pow_add,Nat.mul_assoc,Nat.gcd_mul_left,Nat.Coprime.gcd_mul_left_cancel u (odd_cop hv j),Nat.min_eq_right h,Nat.mul_comm]
theorem gcd_step {x y z u:Nat} (hy:y % 2=1) (hle:y≤x) (h:x - y=2 ^ z*u):Nat.gcd u y=Nat.gcd x y:=by
 rw [←Nat.gcd_sub_self_left hle,h,Nat.Coprime.gcd_mul_left_cancel u (odd_cop hy z)]
theorem zeros_small {n z u:Nat} (h0:0<n) (h:n=2 ^ z*u) (hl:(dr n).length≤1073741824):z≤32212254720∧n / 2 ^ z=u:=by
 have hp:0<2 ^ z:=Nat.pow_pos (by omega)
 have hu:0<u:=by
  rcases Nat.eq_zero_or_pos u with h'|h'
  ·rw [h',Nat.mul_zero] at h;omega
  ·exact h'
 constructor
 ·have h1:2 ^ z*1≤2 ^ z*u:=Nat.mul_le_mul_left _ hu
  have h2:=lt_dig_length B30_two n
  have h3:2 ^ z<2 ^ (30*(dr n).length):=by
   have e:=B30_pow (dr n).length;unfold dr at e ⊢;rw [←e];omega
  have:=(Nat.pow_lt_pow_iff_right (by omega:1<2)).1 h3
  omega
 ·rw [h,Nat.mul_div_cancel_left _ hp]
theorem divisor_r (va vb:Value) (m n:Nat) (h0:0<n) (w:World) (ha:Wr w va m) (hb:Wr w vb n) (sa:(dr m).length≤1073741824) (sb:(dr n).length≤1073741824):Calls Tryz.prog 134 #[va,vb] w fun e w'=>∃v,e=.returned v∧Wr w' v (Nat.gcd m n)∧Ext w w':=by
 have HB:=ZZ hb;have HG:=ZZ (show Nat.gcd m n=Nat.gcd (m % n) n by rw [Nat.gcd_comm m n,Nat.gcd_rec]);have SB:=ZZ (show Sr n by unfold Sr;omega);have H0:=ZZ h0;have HD:=ZZ (divided_r va vb m n h0 w ha hb (by omega) (by omega));have hml:(dr (m % n)).length≤1073741824:=Nat.le_trans (dig_length_mono B30_two (Nat.le_of_lt (Nat.mod_lt m h0))) sb;have HNL:=ZZ sb;clear ha hb sa h0
 go_enter Tryz.func134,Tryz.ntmps134
 go_wp2_with fail;refine HD.out.mono ?_
 rintro e w1 ⟨vq,vr,rfl,-,hr,k1⟩;generalize m % n=r at *;obtain⟨A,c,rfl,hc,hcl⟩:=hr;have X1:=ZZ k1;have HR:=ZZ (show Wr w1 (.slice A (dr r).length c) r from ⟨A,c,rfl,hc,hcl⟩);have HRL:=ZZ hml;clear HD k1 hcl
 by_cases hz:r=0
 ·subst hz
  rw [dr_zero];go_wp2_with fail;go_ret;exact⟨_,rfl,by rw [HG.out,Nat.gcd_zero_left];exact HB.out.mono X1.out,X1.out⟩
 ·have hrp:0<r:=by omega
  have hlz:(((dr r).length:Int) == 0)=false:=by
   have h1:0<(dr r).length:=List.length_pos_iff.2 (dig_ne_nil B30_two hrp);rw [beq_eq_false_iff_ne];omega
  have hlz2:¬(dr r).length=0:=by
   have h1:0<(dr r).length:=List.length_pos_iff.2 (dig_ne_nil B30_two hrp);omega
  have SR:=ZZ (show Sr r by unfold Sr;omega);go_wp2_with fail;refine(zeros_r _ r hrp _ HR.out SR.out).mono ?_;rintro e w2 ⟨⟨zi,u,rfl,hu1,hu2⟩,rfl⟩;have HU1:=ZZ hu1;have HU2:=ZZ hu2;clear hu1 hu2;go_wp2_with fail;refine(zeros_r vb n H0.out _ (HB.out.mono X1.out) SB.out).mono ?_;rintro e w2 ⟨⟨zk,v,rfl,hv1,hv2⟩,rfl⟩;obtain⟨zib,hru⟩:=zeros_small hrp HU1.out HRL.out;obtain⟨zkb,hnv⟩:=zeros_small H0.out hv1 HNL.out;have HGG:=ZZ (show Nat.gcd m n=Nat.gcd u v*2 ^ min zi zk by rw [HG.out,HU1.out,hv1,gcd_two HU2.out hv2]);have HZI:=ZZ (show zi≤35184372088832 by omega);have HZK:=ZZ (show zk≤35184372088832 by omega);have HV2:=ZZ hv2;have HRU:=ZZ hru;have HNV:=ZZ hnv;have HUL:=ZZ (show (dr u).length≤1073741824 from Nat.le_trans (dig_length_mono B30_two (by rw [←hru];exact Nat.div_le_self _ _)) HRL.out);have HVL:=ZZ (show (dr v).length≤1073741824 from Nat.le_trans (dig_length_mono B30_two (by rw [←hnv];exact Nat.div_le_self _ _)) HNL.out);clear hv1 hv2 hru hnv hlz hlz2 hml;go_wp2_with fail;refine(right_r _ r zi HZI.out _ HR.out SR.out).mono ?_;rintro e w3 ⟨vx,rfl,h3,k3⟩;rw [HRU.out] at h3;have H3:=ZZ h3;have X3:=ZZ (al X1.out k3);clear h3 k3;go_wp2_with fail;refine(right_r vb n zk HZK.out _ (HB.out.mono X3.out) SB.out).mono ?_;rintro e w4 ⟨vy,rfl,h4,k4⟩;rw [HNV.out] at h4;have H4:=ZZ h4;have H3':=ZZ (H3.out.mono k4);have X4:=ZZ (al X3.out k4);clear h4 k4 H3 HR HB SR SB;obtain⟨mk,hmk⟩:∃mk:Nat,min (zi:Int) (zk:Int)=(mk:Int)∧mk=min zi zk∧mk≤1099511627776:=⟨min zi zk,by omega,rfl,by omega⟩
  obtain⟨hmn,hmk2,hmk3⟩:=hmk;rw [←hmk2] at HGG;clear hmk2;go_wp2_with fail
  go_loopg [0,1] (u+v) (fun gk p q wr=>∃X Y:Nat,gk=X+Y∧Hid (Wr wr p X)∧Hid (Wr wr q Y)∧X % 2=1∧Y % 2=1∧Nat.gcd X Y=Nat.gcd u v∧(dr X).length≤1073741824∧(dr Y).length≤1073741824∧Hid (Ext w wr))
  case atStart=>exact⟨u,v,rfl,H3',H4,HU2.out,HV2.out,rfl,HUL.out,HVL.out,X4⟩
  case round=>
   obtain⟨X,Y,hgk,HX,HY,hX2,hY2,hg,hXl,hYl,HE⟩:=hrel;have HX2:=ZZ hX2;have HY2:=ZZ hY2;have HGX:=ZZ hg;have SX:=ZZ (show Sr X by unfold Sr;omega);have SY:=ZZ (show Sr Y by unfold Sr;omega);have HGK:=ZZ hgk;have HXP:=ZZ (show 0<X by omega);have HYP:=ZZ (show 0<Y by omega);clear hX2 hY2 hg hgk;obtain⟨AX,cX,rfl,hcX,hclX⟩:=HX.out;obtain⟨AY,cY,rfl,hcY,hclY⟩:=HY.out;clear hclX hclY;have HXL:=ZZ hXl;have HYL:=ZZ hYl;generalize hlx:(dr X).length=lx at *;generalize hly:(dr Y).length=ly at *;have HLX:=ZZ hlx;have HLY:=ZZ hly;have HXD:=ZZ (show (dr X).length≤1073741824 by rw [HLX.out];exact HXL.out);have HYD:=ZZ (show (dr Y).length≤1073741824 by rw [HLY.out];exact HYL.out);clear hlx hly
   by_cases hA:2<lx
   ·go_wp2_with fail
    refine(order_r _ _ X Y _ HX.out HY.out SX.out SY.out).mono ?_;rintro e w5 ⟨rfl,q5,rfl⟩
    rcases Nat.lt_trichotomy X Y with hxy|hxy|hxy
    ·rw [ordN_lt hxy]
     have HLT:=ZZ hxy;clear hxy;go_wp2_with fail;refine(minus_r _ _ Y X _ (HY.out.mono (aA _ _)) (HX.out.mono (aA _ _)) SY.out (Nat.le_of_lt HLT.out)).mono ?_;rintro e w6 ⟨v6,rfl,h6,k6⟩;have HS6:=ZZ (show Sr (Y - X) from Nat.le_trans (dig_length_mono B30_two (Nat.sub_le _ _)) SY.out);have H6:=ZZ h6;have E6:=ZZ (al HE.out (al (aA _ _) k6));have HY6:=ZZ (HX.out.mono (al (aA _ _) k6));clear h6 k6;go_wp2_with fail;refine(zeros_r v6 (Y - X) (by have:=HLT.out;omega) _ H6.out HS6.out).mono ?_;rintro e w7 ⟨⟨zz,uu,rfl,hz1,hz2⟩,rfl⟩;have HZ1:=ZZ hz1;have HZ2:=ZZ hz2;have HD7:=ZZ (show (dr (Y - X)).length≤1073741824 from Nat.le_trans (dig_length_mono B30_two (Nat.sub_le _ _)) HYD.out);obtain⟨zzb,hdv⟩:=zeros_small (by have:=HLT.out;omega) hz1 HD7.out;have HDV:=ZZ hdv;clear hz1 hz2 hdv;go_wp2_with fail;refine(right_r v6 (Y - X) zz (by omega) _ H6.out HS6.out).mono ?_;rintro e w8 ⟨v8,rfl,h8,k8⟩;rw [HDV.out] at h8;have H8:=ZZ h8;have E8:=ZZ (al E6.out k8);have HY8:=ZZ (HY6.out.mono k8);clear h8 k8;go_wp2_with fail
     go_roundg (uu+X)
     case measure=>
      have h1:=HZ1.out;have h2:=HLT.out;have h3:1*uu≤2 ^ zz*uu:=Nat.mul_le_mul_right _ (Nat.pow_pos (by omega));have h4:=HGK.out;have h5:=HYP.out;have h6:=HXP.out;omega
     case rel=>
      refine⟨uu,X,rfl,H8,HY8,HZ2.out,HX2.out,?_,?_,HXD.out,E8⟩
      ·rw [gcd_step HX2.out (Nat.le_of_lt HLT.out) HZ1.out]
       first|exact HGX.out|(rw [Nat.gcd_comm];exact HGX.out)
      ·refine Nat.le_trans (dig_length_mono B30_two ?_) HD7.out
       rw [←HDV.out];exact Nat.div_le_self _ _
    ·rw [ordN_eq hxy]
     have HEQ:=ZZ hxy;clear hxy;go_wp2_with fail;refine(left_r _ X mk (by omega) _ (HX.out.mono (aA _ _)) SX.out).mono ?_;rintro e w6 ⟨v6,rfl,h6,k6⟩;have H6:=ZZ h6;have E6:=ZZ (al HE.out (al (aA _ _) k6));clear h6 k6;go_wp2_with fail;go_ret;refine⟨_,rfl,?_,E6.out⟩;rw [HGG.out,←HGX.out,←HEQ.out,Nat.gcd_self];exact H6.out
    ·rw [ordN_gt hxy]
     have HLT:=ZZ hxy;clear hxy;go_wp2_with fail;refine(minus_r _ _ X Y _ (HX.out.mono (aA _ _)) (HY.out.mono (aA _ _)) SX.out (Nat.le_of_lt HLT.out)).mono ?_;rintro e w6 ⟨v6,rfl,h6,k6⟩;have HS6:=ZZ (show Sr (X - Y) from Nat.le_trans (dig_length_mono B30_two (Nat.sub_le _ _)) SX.out);have H6:=ZZ h6;have E6:=ZZ (al HE.out (al (aA _ _) k6));have HY6:=ZZ (HY.out.mono (al (aA _ _) k6));clear h6 k6;go_wp2_with fail;refine(zeros_r v6 (X - Y) (by have:=HLT.out;omega) _ H6.out HS6.out).mono ?_;rintro e w7 ⟨⟨zz,uu,rfl,hz1,hz2⟩,rfl⟩;have HZ1:=ZZ hz1;have HZ2:=ZZ hz2;have HD7:=ZZ (show (dr (X - Y)).length≤1073741824 from Nat.le_trans (dig_length_mono B30_two (Nat.sub_le _ _)) HXD.out);obtain⟨zzb,hdv⟩:=zeros_small (by have:=HLT.out;omega) hz1 HD7.out;have HDV:=ZZ hdv;clear hz1 hz2 hdv;go_wp2_with fail;refine(right_r v6 (X - Y) zz (by omega) _ H6.out HS6.out).mono ?_;rintro e w8 ⟨v8,rfl,h8,k8⟩;rw [HDV.out] at h8;have H8:=ZZ h8;have E8:=ZZ (al E6.out k8);have HY8:=ZZ (HY6.out.mono k8);clear h8 k8;go_wp2_with fail
     go_roundg (uu+Y)
     case measure=>
      have h1:=HZ1.out;have h2:=HLT.out;have h3:1*uu≤2 ^ zz*uu:=Nat.mul_le_mul_right _ (Nat.pow_pos (by omega));have h4:=HGK.out;have h5:=HYP.out;have h6:=HXP.out;omega
     case rel=>
      refine⟨uu,Y,rfl,H8,HY8,HZ2.out,HY2.out,?_,?_,HYD.out,E8⟩
      ·rw [gcd_step HY2.out (Nat.le_of_lt HLT.out) HZ1.out]
       first|exact HGX.out|(rw [Nat.gcd_comm];exact HGX.out)
      ·refine Nat.le_trans (dig_length_mono B30_two ?_) HD7.out
       rw [←HDV.out];exact Nat.div_le_self _ _
   ·by_cases hB:2<ly
    ·go_wp2_with fail
     refine(order_r _ _ X Y _ HX.out HY.out SX.out SY.out).mono ?_;rintro e w5 ⟨rfl,q5,rfl⟩
     rcases Nat.lt_trichotomy X Y with hxy|hxy|hxy
     ·rw [ordN_lt hxy]
      have HLT:=ZZ hxy;clear hxy;go_wp2_with fail;refine(minus_r _ _ Y X _ (HY.out.mono (aA _ _)) (HX.out.mono (aA _ _)) SY.out (Nat.le_of_lt HLT.out)).mono ?_;rintro e w6 ⟨v6,rfl,h6,k6⟩;have HS6:=ZZ (show Sr (Y - X) from Nat.le_trans (dig_length_mono B30_two (Nat.sub_le _ _)) SY.out);have H6:=ZZ h6;have E6:=ZZ (al HE.out (al (aA _ _) k6));have HY6:=ZZ (HX.out.mono (al (aA _ _) k6));clear h6 k6;go_wp2_with fail;refine(zeros_r v6 (Y - X) (by have:=HLT.out;omega) _ H6.out HS6.out).mono ?_;rintro e w7 ⟨⟨zz,uu,rfl,hz1,hz2⟩,rfl⟩;have HZ1:=ZZ hz1;have HZ2:=ZZ hz2;have HD7:=ZZ (show (dr (Y - X)).length≤1073741824 from Nat.le_trans (dig_length_mono B30_two (Nat.sub_le _ _)) HYD.out);obtain⟨zzb,hdv⟩:=zeros_small (by have:=HLT.out;omega) hz1 HD7.out;have HDV:=ZZ hdv;clear hz1 hz2 hdv;go_wp2_with fail;refine(right_r v6 (Y - X) zz (by omega) _ H6.out HS6.out).mono ?_;rintro e w8 ⟨v8,rfl,h8,k8⟩;rw [HDV.out] at h8;have H8:=ZZ h8;have E8:=ZZ (al E6.out k8);have HY8:=ZZ (HY6.out.mono k8);clear h8 k8;go_wp2_with fail
      go_roundg (uu+X)
      case measure=>
       have h1:=HZ1.out;have h2:=HLT.out;have h3:1*uu≤2 ^ zz*uu:=Nat.mul_le_mul_right _ (Nat.pow_pos (by omega));have h4:=HGK.out;have h5:=HYP.out;have h6:=HXP.out;omega
      case rel=>
       refine⟨uu,X,rfl,H8,HY8,HZ2.out,HX2.out,?_,?_,HXD.out,E8⟩
       ·rw [gcd_step HX2.out (Nat.le_of_lt HLT.out) HZ1.out]
        first|exact HGX.out|(rw [Nat.gcd_comm];exact HGX.out)
       ·refine Nat.le_trans (dig_length_mono B30_two ?_) HD7.out
        rw [←HDV.out];exact Nat.div_le_self _ _
     ·rw [ordN_eq hxy]
      have HEQ:=ZZ hxy;clear hxy;go_wp2_with fail;refine(left_r _ X mk (by omega) _ (HX.out.mono (aA _ _)) SX.out).mono ?_;rintro e w6 ⟨v6,rfl,h6,k6⟩;have H6:=ZZ h6;have E6:=ZZ (al HE.out (al (aA _ _) k6));clear h6 k6;go_wp2_with fail;go_ret;refine⟨_,rfl,?_,E6.out⟩;rw [HGG.out,←HGX.out,←HEQ.out,Nat.gcd_self];exact H6.out
     ·rw [ordN_gt hxy]
      have HLT:=ZZ hxy;clear hxy;go_wp2_with fail;refine(minus_r _ _ X Y _ (HX.out.mono (aA _ _)) (HY.out.mono (aA _ _)) SX.out (Nat.le_of_lt HLT.out)).mono ?_;rintro e w6 ⟨v6,rfl,h6,k6⟩;have HS6:=ZZ (show Sr (X - Y) from Nat.le_trans (dig_length_mono B30_two (Nat.sub_le _ _)) SX.out);have H6:=ZZ h6;have E6:=ZZ (al HE.out (al (aA _ _) k6));have HY6:=ZZ (HY.out.mono (al (aA _ _) k6));clear h6 k6;go_wp2_with fail;refine(zeros_r v6 (X - Y) (by have:=HLT.out;omega) _ H6.out HS6.out).mono ?_;rintro e w7 ⟨⟨zz,uu,rfl,hz1,hz2⟩,rfl⟩;have HZ1:=ZZ hz1;have HZ2:=ZZ hz2;have HD7:=ZZ (show (dr (X - Y)).length≤1073741824 from Nat.le_trans (dig_length_mono B30_two (Nat.sub_le _ _)) HXD.out);obtain⟨zzb,hdv⟩:=zeros_small (by have:=HLT.out;omega) hz1 HD7.out;have HDV:=ZZ hdv;clear hz1 hz2 hdv;go_wp2_with fail;refine(right_r v6 (X - Y) zz (by omega) _ H6.out HS6.out).mono ?_;rintro e w8 ⟨v8,rfl,h8,k8⟩;rw [HDV.out] at h8;have H8:=ZZ h8;have E8:=ZZ (al E6.out k8);have HY8:=ZZ (HY6.out.mono k8);clear h8 k8;go_wp2_with fail
      go_roundg (uu+Y)
      case measure=>
       have h1:=HZ1.out;have h2:=HLT.out;have h3:1*uu≤2 ^ zz*uu:=Nat.mul_le_mul_right _ (Nat.pow_pos (by omega));have h4:=HGK.out;have h5:=HYP.out;have h6:=HXP.out;omega
      case rel=>
       refine⟨uu,Y,rfl,H8,HY8,HZ2.out,HY2.out,?_,?_,HYD.out,E8⟩
       ·rw [gcd_step HY2.out (Nat.le_of_lt HLT.out) HZ1.out]
        first|exact HGX.out|(rw [Nat.gcd_comm];exact HGX.out)
       ·refine Nat.le_trans (dig_length_mono B30_two ?_) HD7.out
        rw [←HDV.out];exact Nat.div_le_self _ _
    ·have hlx2:lx≤2:=by omega
     have hly2:ly≤2:=by omega
     have HL1:=ZZ (show (dr X).length≤2 by rw [HLX.out];exact hlx2);have HL2:=ZZ (show (dr Y).length≤2 by rw [HLY.out];exact hly2)
     have hXb:X<1152921504606846976:=by
      have h1:=lt_dig_length B30_two X;have h2:B30 ^ (dig B30 X).length≤B30 ^ 2:=Nat.pow_le_pow_right (by rw [B30_eq];omega) HL1.out;have h3:B30 ^ 2=1152921504606846976:=by rw [B30_eq]
      omega
     have hYb:Y<1152921504606846976:=by
      have h1:=lt_dig_length B30_two Y;have h2:B30 ^ (dig B30 Y).length≤B30 ^ 2:=Nat.pow_le_pow_right (by rw [B30_eq];omega) HL2.out;have h3:B30 ^ 2=1152921504606846976:=by rw [B30_eq]
      omega
     go_wp2_with fail;refine(short_r _ X _ HX.out HL1.out).mono ?_
     rintro e w5 ⟨rfl,rfl⟩;go_wp2_with fail;refine(short_r _ Y _ HY.out HL2.out).mono ?_;rintro e w5 ⟨rfl,rfl⟩;have HXB:=ZZ hXb;have HYB:=ZZ hYb;clear hXb hYb;go_wp2_with fail
     go_loopg [8,9] Y (fun gk x y wx=>∃P q:Nat,x=.int .i64 (P:Int)∧y=.int .i64 (gk:Int)∧Nat.gcd P gk=Nat.gcd u v∧P<1152921504606846976∧gk<1152921504606846976∧wx=wr.drewN q)
     case atStart=>exact⟨X,0,rfl,rfl,HGX.out,HXB.out,HYB.out,rfl⟩
     case round=>
      obtain⟨P,q,rfl,rfl,hg,hP,hgk,rfl⟩:=hrel;have HG2:=ZZ hg;clear hg
      rcases Nat.eq_zero_or_pos gk with hz|hz
      ·subst hz
       have HPG:=ZZ (show P=Nat.gcd u v by have:=HG2.out;rwa [Nat.gcd_zero_right] at this);go_wp2_with fail;refine(small_r P hP _).mono ?_;rintro e w8 ⟨v8,rfl,h8,k8⟩;have H8:=ZZ h8;have E8:=ZZ (al HE.out (al (aA _ _) k8))
       have SP:=ZZ (show Sr P by
        unfold Sr;exact Nat.le_trans (dig_length_le B30_two (k:=2) (by rw [B30_eq];omega)) (by omega))
       clear h8 k8;go_wp2_with fail;refine(left_r v8 P mk (by omega) _ H8.out SP.out).mono ?_;rintro e w9 ⟨v9,rfl,h9,k9⟩;have H9:=ZZ h9;have E9:=ZZ (al E8.out k9);clear h9 k9;go_wp2_with fail;go_ret;refine⟨_,rfl,?_,E9.out⟩;rw [HGG.out,←HPG.out];exact H9.out
      ·have hne:((gk:Int) != 0)=true:=by simp;omega
       obtain⟨s,hs⟩:∃s,s=P % gk:=⟨_,rfl⟩;have hrem:(P:Int) % (gk:Int)=(s:Int):=by rw [hs];exact(Int.natCast_emod P gk).symm
       have hsg:s<gk:=by rw [hs];exact Nat.mod_lt _ hz
       have HS:=ZZ (show Nat.gcd gk s=Nat.gcd u v by rw [←HG2.out,hs,Nat.gcd_comm,←Nat.gcd_rec,Nat.gcd_comm]);have hws:IntKind.i64.wrap (s:Int)=(s:Int):=IntWalk.i64_in _ (by omega);clear hs;go_wp2_with fail
       go_quiet (fail)
       go_wp2_with fail
       go_roundg s
       case measure=>exact hsg
       case rel=>exact⟨gk,_,rfl,by first|rfl|rw [hrem],HS.out,by omega,by omega,drewN2 _ _ _⟩
end Go.Proofs.YtpgdefgdboijlaaGreatDoor
namespace Go.Proofs.YtpgdefgdboijlaaGreatDoor
open Go.RowKit
theorem natOf_split (l:List UInt8) (c n:Nat) (h:c+n≤l.length):natOf (l.take (c+n))=natOf (l.take c)*10 ^ n+natOf ((l.drop c).take n):=by
 rw [List.take_add,natOf_append];rw [List.length_take,List.length_drop,Nat.min_eq_left (by omega)]
theorem dr_ten {n k:Nat} (h:n<10 ^ k):(dr n).length≤k:=by
 apply dig_length_le B30_two
 have:10 ^ k≤B30 ^ k:=Nat.pow_le_pow_left (by rw [B30_eq];omega) k
 omega
theorem natural_r (l:List UInt8) (hd:∀c ∈ l,isDig c=true) (hl:l.length≤1000000) (w:World):Calls Tryz.prog 111 #[.string ⟨l.toArray⟩] w fun e w'=>∃v,e=.returned v∧Wr w' v (natOf l)∧Ext w w':=by
 have HDG:=ZZ hd;clear hd
 go_enter Tryz.func111,Tryz.ntmps111
 go_wp2_with fail
 go_loopg [0,3] (l.length) (fun gk s out wr=>∃(c:Nat) (y:List UInt8),c+gk=l.length∧y.length=gk∧s=.string ⟨y.toArray⟩∧Hid (y=l.drop c)∧Hid (Wr wr out (natOf (l.take c)))∧Hid (Ext w wr))
 case atStart=>exact⟨0,l,by omega,rfl,rfl,ZZ (by simp),ZZ (Wr.zero _),ZZ (ad _)⟩
 case round=>
  obtain⟨G,hG⟩:∃G,G=gk:=⟨_,rfl⟩;subst hG;obtain⟨c,y,hc,hy,rfl,HY,HW,HE⟩:=hrel;have hsz:(⟨y.toArray⟩:ByteArray).size=G:=by rw [←hy];simp [ByteArray.size]
  have HYL:=ZZ hy;have HCL:=ZZ hc
  rcases Nat.eq_zero_or_pos G with hz|hz
  ·subst hz
   have HF:=ZZ (show natOf (l.take c)=natOf l by rw [List.take_of_length_le (by omega)]);clear hy hc;go_wp2_with fail;go_ret;exact⟨_,rfl,by rw [←HF.out];exact HW.out,HE.out⟩
  ·obtain⟨nn,hnn,hn1,hn9,hng⟩:∃nn:Nat,min (G:Int) 9=(nn:Int)∧1≤nn∧nn≤9∧nn≤G:=⟨min G 9,by omega,by omega,by omega,by omega⟩
   have hgl:G≤1000000:=by omega
   have HGP:=ZZ hz;clear hy hc;go_wp2_with fail
   go_loopg [5,6,7] nn (fun g p f i wx=>∃t P F:Nat,t+g=nn∧i=.int .i64 (t:Int)∧p=.int .i64 (P:Int)∧f=.int .i64 (F:Int)∧P=natOf (y.take t)∧F=10 ^ t∧P<1000000000∧F≤1000000000∧wx=wr)
   case atStart=>exact⟨0,0,1,by omega,rfl,rfl,rfl,by simp [natOf],rfl,by omega,by omega,rfl⟩
   case round=>
    obtain⟨t,P,F,ht,rfl,rfl,rfl,hP,hF,hPb,hFb,rfl⟩:=hrel;have HP:=ZZ hP;have HF:=ZZ hF;clear hP hF
    rcases Nat.eq_zero_or_pos gk with hz|hz
    ·subst hz
     obtain rfl:t=nn:=by omega
     have hx2:(⟨y.toArray⟩:ByteArray).extract t G=⟨(y.drop t).toArray⟩:=by
      apply ByteArray.ext;simp;exact List.take_of_length_le (by simp;have:=HYL.out;omega)
     have SO:=ZZ (show Sr (natOf (l.take c)) by
      have h1:=natOf_lt (l.take c) (fun z hz=>HDG.out z (List.mem_of_mem_take hz));have h2:=dr_ten h1;rw [List.length_take] at h2;unfold Sr;omega)
     have SF:=ZZ (show Sr F by
      have:=dr_ten (n:=F) (k:=10) (by omega)
      unfold Sr;omega)
     have SP:=ZZ (show Sr P by
      have:=dr_ten (n:=P) (k:=10) (by omega)
      unfold Sr;omega)
     have HSPL:=ZZ (show natOf (l.take (c+t))=natOf (l.take c)*F+P by
      rw [natOf_split l c t (by have:=HCL.out;omega),HF.out,HP.out,HY.out])
     have SOF:=ZZ (show Sr (natOf (l.take c)*F) by
      have h1:=natOf_lt (l.take c) (fun z hz=>HDG.out z (List.mem_of_mem_take hz));have h2:=dr_ten h1;have h3:=dr_ten (n:=F) (k:=10) (by omega);have h4:=dig_length_mul B30_two (natOf (l.take c)) F;rw [List.length_take] at h2;unfold Sr dr at *;omega)
     have hw1:(t:Int)≤(G:Int):=by omega
     go_wp2_with fail;refine(small_r F (by omega) _).mono ?_
     rintro e w2 ⟨v2,rfl,h2,k2⟩;have H2:=ZZ h2;have K2:=ZZ k2;clear h2 k2;go_wp2_with fail;refine(times_r _ v2 (natOf (l.take c)) F _ (HW.out.mono K2.out) H2.out SO.out SF.out).mono ?_;rintro e w3 ⟨v3,rfl,h3,k3⟩;have H3:=ZZ h3;have K3:=ZZ (al K2.out k3);clear h3 k3;go_wp2_with fail;refine(small_r P (by omega) _).mono ?_;rintro e w4 ⟨v4,rfl,h4,k4⟩;have H4:=ZZ h4;have K4:=ZZ (al K3.out k4);have H3':=ZZ (H3.out.mono k4);clear h4 k4;go_wp2_with fail;refine(plus_r v3 v4 (natOf (l.take c)*F) P _ H3'.out H4.out SOF.out SP.out).mono ?_;rintro e w5 ⟨v5,rfl,h5,k5⟩;have H5:=ZZ h5;have K5:=ZZ (al HE.out (al K4.out k5));clear h5 k5;go_wp2_with fail
     go_roundg (G - t)
     case measure=>have:=HGP.out;omega
     case rel=>
      refine⟨c+t,y.drop t,by have:=HCL.out;omega,by rw [List.length_drop,HYL.out],rfl,ZZ (by rw [HY.out,List.drop_drop]),?_,K5⟩;rw [HSPL.out];exact H5
    ·have htl:t<y.length:=by have:=HYL.out;omega
     have hz1:t<(⟨y.toArray⟩:ByteArray).size:=by rw [hsz];omega
     have hge:(⟨y.toArray⟩:ByteArray)[t]'hz1=y[t]:=by rfl
     have hsub:∀z ∈ y,z ∈ l:=fun z hz=>by rw [HY.out] at hz;exact List.mem_of_mem_drop hz
     have HSUB:=ZZ hsub;have hdig:=HDG.out y[t] (hsub _ (List.getElem_mem _));clear hsub;rw [isDig_iff] at hdig;obtain⟨dg,hdg⟩:∃dg:Nat,dg=(y[t]).toNat - 48:=⟨_,rfl⟩;have HNX:=ZZ (show natOf (y.take (t+1))=10*P+dg by rw [natOf_take_succ y t htl,←HP.out,hdg]);have hdb:dg≤9:=by omega
     have HTL:=ZZ htl
     have hw1:IntKind.u8.wrap ((((⟨y.toArray⟩:ByteArray)[t]'hz1).toNat:Int) - 48)=(dg:Int):=by
      rw [hge,IntWalk.u8_in _ (by omega)];omega
     obtain⟨P1,hP1⟩:∃P1:Nat,P1=10*P:=⟨_,rfl⟩;obtain⟨P2,hP2⟩:∃P2:Nat,P2=P1+dg:=⟨_,rfl⟩;obtain⟨F1,hF1⟩:∃F1:Nat,F1=10*F:=⟨_,rfl⟩;have hw2:IntKind.i64.wrap (10*(P:Int))=(P1:Int):=(IntWalk.i64_in _ (by omega)).trans (by omega);have hw3:IntKind.i64.wrap (dg:Int)=(dg:Int):=IntWalk.i64_in _ (by omega);have hw4:IntKind.i64.wrap ((P1:Int)+(dg:Int))=(P2:Int):=(IntWalk.i64_in _ (by omega)).trans (by omega);have hw5:IntKind.i64.wrap (10*(F:Int))=(F1:Int):=(IntWalk.i64_in _ (by omega)).trans (by omega);have HP2:=ZZ (show P2=natOf (y.take (t+1)) by rw [HNX.out,hP2,hP1]);have HF2:=ZZ (show F1=10 ^ (t+1) by rw [hF1,HF.out,Nat.pow_succ,Nat.mul_comm])
     have HB2:=ZZ (show P2<1000000000 by
      rw [HP2.out];have h1:=natOf_lt (y.take (t+1)) (fun z hz=>HDG.out z (HSUB.out z (List.mem_of_mem_take hz)));have h3:(y.take (t+1)).length≤9:=by rw [List.length_take];omega
      have h4:10 ^ (y.take (t+1)).length≤10 ^ 9:=Nat.pow_le_pow_right (by omega) h3
      omega)
     have HB3:=ZZ (show F1≤1000000000 by
      rw [HF2.out];have h4:10 ^ (t+1)≤10 ^ 9:=Nat.pow_le_pow_right (by omega) (by omega)
      omega)
     have HZ0:=ZZ hz;clear hge hdig hdg hP1 hP2 hF1;go_wp2_with fail
     go_roundg (gk - 1)
     case measure=>have:=HZ0.out;omega
     case rel=>exact⟨t+1,P2,F1,by omega,by first|rfl|simp,rfl,rfl,HP2.out,HF2.out,HB2.out,HB3.out,rfl⟩
end Go.Proofs.YtpgdefgdboijlaaGreatDoor
namespace Go.Proofs.YtpgdefgdboijlaaGreatDoor
open Go.RowKit
theorem dr_one:dr 1=[1]:=by
 unfold dr;rw [dig_pos B30_two (by omega),B30_eq,show 1 / 1073741824=0 from rfl,dig_zero]
theorem one_r (w:World):Calls Tryz.prog 112 #[] w fun e w'=>∃v,e=.returned v∧Wr w' v 1∧Ext w w':=by
 go_enter Tryz.func112,Tryz.ntmps112
 go_wp2
 go_ret;refine⟨_,rfl,?_,ab _ _⟩
 refine⟨some ⟨w.heap.size,0,none⟩,1,by rw [dr_one];rfl,by rw [dr_one];simp,?_⟩;rw [dr_one];exact cl_new w [i64n 1] 2
theorem ris1_iff (n:Nat):n=1↔(dr n).length=1∧(dr n).getD 0 0=1:=by
 constructor
 ·rintro rfl;rw [dr_one];simp
 ·rintro⟨h1,h2⟩
  have e:=num_dr n
  match h:dr n,h1,h2 with
  | [d],_,h2=>rw [h] at e;simp at h2 e;omega
theorem is1_r (va:Value) (n:Nat) (b:Bool) (hb:decide (n=1)=b) (w:World) (ha:Wr w va n):Calls Tryz.prog 122 #[va] w fun e w'=>e=.returned (.bool b)∧w=w':=by
 obtain⟨A,ca,rfl,hca,hA⟩:=ha;have hi:=ris1_iff n
 by_cases hl:(dr n).length=1
 ·obtain⟨ba,oa,rfl,hc⟩:=hA.i (by omega)
  have h0:w.cell? ⟨ba,oa,none⟩=some (.int .i64 (((dr n).getD 0 0:Nat):Int)):=by have h1:=hc 0 (by omega);rwa [Nat.add_zero] at h1
  clear hc hA
  have Hi:Hid (decide ((dr n).getD 0 0=1)=b):=by
   rw [←hb];show decide _=decide _;simp only [hi,hl,true_and]
  clear hi;generalize (dr n).getD 0 0=x at *;have hlt:((((dr n).length:Nat):Int) == 1)=true:=by simp;omega
  have hp:(0:Int)<((dr n).length:Nat):=by omega
  have hp':0<(dr n).length:=by omega
  generalize (dr n).length=k at *
  by_cases hx:x=1
  ·have ht:((x:Int) == 1)=true:=by simp;omega
   have Hb:Hid (b=true):=by have:=Hi.out;rw [←this];exact decide_eq_true hx
   clear hx hb hl
   go_enter Tryz.func122,Tryz.ntmps122
   go_wp2
   go_ret;rw [Hb.out]
   exact⟨rfl,rfl⟩
  ·have ht:((x:Int) == 1)=false:=by simp;omega
   have Hb:Hid (b=false):=by have:=Hi.out;rw [←this];exact decide_eq_false hx
   clear hx hb hl
   go_enter Tryz.func122,Tryz.ntmps122
   go_wp2
   go_ret;rw [Hb.out]
   exact⟨rfl,rfl⟩
 ·have hlt:((((dr n).length:Nat):Int) == 1)=false:=by simp;omega
  have Hb:Hid (b=false):=by rw [←hb];exact decide_eq_false (fun h=>hl (hi.1 h).1)
  clear hl hb hi;generalize (dr n).length=k at *
  go_enter Tryz.func122,Tryz.ntmps122
  go_wp2
  go_ret;rw [Hb.out]
  exact⟨rfl,rfl⟩
def sgnB (b:Bool):Int:=if b=true then -1 else 1
theorem minus_no {c:UInt8} {l:List UInt8} (h:c≠45):minusB (c :: l)=false∧restB (c :: l)=c :: l:=by
 have hne:¬(45:UInt8)=c:=fun e=>h e.symm;unfold minusB restB Lib.trimPrefix Lib.hasPrefix
 simp [List.isPrefixOf,hne]
theorem minus_yes (l:List UInt8):minusB (45 :: l)=true∧restB (45 :: l)=l:=by
 unfold minusB restB Lib.trimPrefix Lib.hasPrefix
 simp [List.isPrefixOf]
theorem signed_r (l:List UInt8) (hs:l.length≤9223372036854775807) (w:World):Calls Tryz.prog 108 #[.string ⟨l.toArray⟩] w fun e w'=>e=.returned (.tuple #[.string ⟨(restB l).toArray⟩,.int .i64 (sgnB (minusB l))])∧w'=w:=by
 rcases l with _|⟨c,l⟩
 ·have h1:minusB []=false:=rfl
  have h2:restB []=[]:=rfl;rw [h1,h2]
  go_enter Tryz.func108,Tryz.ntmps108
  go_wp2_with fail;refine bodyPost_ret (v:=.tuple #[.string ⟨#[]⟩,.int .i64 1]) (by simp [results,Tryz.f108]) rfl ?_
  exact⟨rfl,rfl⟩
 ·have hsz:(⟨(c :: l).toArray⟩:ByteArray).size=l.length+1:=by simp [ByteArray.size]
  have hz1:0<(⟨(c :: l).toArray⟩:ByteArray).size:=by rw [hsz];omega
  have hge:(⟨(c :: l).toArray⟩:ByteArray)[0]'hz1=c:=by rfl
  have hp:(0:Int)<((l.length+1:Nat):Int):=by omega
  have hx:(⟨(c :: l).toArray⟩:ByteArray).extract 1 (l.length+1)=⟨l.toArray⟩:=by apply ByteArray.ext;simp
  by_cases h:c=45
  ·subst h
   have ht:((((⟨(45 :: l).toArray⟩:ByteArray)[0]'hz1).toNat:Int) == 45)=true:=by rw [hge];rfl
   have HM:=ZZ (minus_yes l);clear hge
   go_enter Tryz.func108,Tryz.ntmps108
   go_wp2_with fail;refine bodyPost_ret (v:=.tuple #[.string ⟨l.toArray⟩,.int .i64 (-1)]) (by simp [results,Tryz.f108]) rfl ?_
   exact⟨by rw [HM.out.1,HM.out.2];rfl,rfl⟩
  ·have ht:((((⟨(c :: l).toArray⟩:ByteArray)[0]'hz1).toNat:Int) == 45)=false:=by
    rw [hge,beq_eq_false_iff_ne];intro e
    apply h
    apply UInt8.toNat_inj.1
    have e45:(45:UInt8).toNat=45:=rfl;omega
   have HM:=ZZ (minus_no (l:=l) h);clear hge h
   go_enter Tryz.func108,Tryz.ntmps108
   go_wp2_with fail;refine bodyPost_ret (v:=.tuple #[.string ⟨(c :: l).toArray⟩,.int .i64 1]) (by simp [results,Tryz.f108]) rfl ?_
   exact⟨by rw [HM.out.1,HM.out.2];rfl,rfl⟩
end Go.Proofs.YtpgdefgdboijlaaGreatDoor
namespace Go.Proofs.YtpgdefgdboijlaaGreatDoor
open Go.RowKit
theorem byte_eq (a c:UInt8):((((a.toNat:Nat):Int) == ((c.toNat:Nat):Int))=true↔a=c):=by
 rw [beq_iff_eq]
 constructor
 ·intro e;apply UInt8.toNat_inj.1;omega
 ·rintro rfl;rfl
theorem split_r (l:List UInt8) (c:UInt8) (hs:l.length≤9223372036854775807) (w:World):Calls Tryz.prog 107 #[.string ⟨l.toArray⟩,.int .u8 (c.toNat:Int)] w fun e w'=>e=.returned (.tuple #[.string ⟨(cutB c l).1.toArray⟩,.string ⟨(cutB c l).2.1.toArray⟩,.bool (cutB c l).2.2])∧∃q,w'=w.drewN q:=by
 have hsz:(⟨l.toArray⟩:ByteArray).size=l.length:=by simp [ByteArray.size]
 go_enter Tryz.func107,Tryz.ntmps107
 go_wp2_with fail
 go_loopg [7] (l.length) (fun k i wr=>∃t:Nat,t+k=l.length∧i=.int .i64 (t:Int)∧Hid (c ∉ l.take t)∧wr=w)
 case atStart=>exact⟨0,by omega,rfl,ZZ (by simp),rfl⟩
 case round=>
  obtain⟨t,ht,rfl,HN,rfl⟩:=hrel
  rcases Nat.eq_zero_or_pos gk with hz|hz
  ·subst hz
   obtain rfl:t=l.length:=by omega
   have HNO:=ZZ (show cutB c l=(l,[],false) from cutB_no l c (by have:=HN.out;rwa [List.take_length] at this));go_wp2_with fail;refine bodyPost_ret (v:=.tuple #[.string ⟨l.toArray⟩,.string ⟨#[]⟩,.bool false]) (by simp [results,Tryz.f107]) rfl ?_;exact⟨by rw [HNO.out],0,rfl⟩
  ·have hlt:(t:Int)<(l.length:Int):=by omega
   have htl:t<l.length:=by omega
   have hz1:t<(⟨l.toArray⟩:ByteArray).size:=by rw [hsz];exact htl
   have hge:(⟨l.toArray⟩:ByteArray)[t]'hz1=(l[t]'htl):=by rfl
   have HT:=ZZ ht;have HZ0:=ZZ hz;have HTL:=ZZ htl
   by_cases hb:(l[t]'htl)=c
   ·have ht1:((((⟨l.toArray⟩:ByteArray)[t]'hz1).toNat:Int) == (c.toNat:Int))=true:=by rw [hge];exact(byte_eq _ _).2 hb
    have HY:=ZZ (show cutB c l=(l.take t,l.drop (t+1),true) by
     have h1:l=l.take t ++ c :: l.drop (t+1):=by
      have h0:l=l.take t ++ (l[t]'htl) :: l.drop (t+1):=by rw [←List.drop_eq_getElem_cons htl,List.take_append_drop]
      have h3:l.take t ++ (l[t]'htl) :: l.drop (t+1)=l.take t ++ c :: l.drop (t+1):=by rw [show l[t]'htl=c from hb]
      exact h0.trans h3
     have h2:=cutB_yes (l.take t) (l.drop (t+1)) c HN.out;rw [←h1] at h2;exact h2)
    have hx1:(⟨l.toArray⟩:ByteArray).extract 0 t=⟨(l.take t).toArray⟩:=by apply ByteArray.ext;simp
    have hx2:(⟨l.toArray⟩:ByteArray).extract (t+1) l.length=⟨(l.drop (t+1)).toArray⟩:=by apply ByteArray.ext;simp;exact List.take_of_length_le (by simp)
    have hw:IntKind.i64.wrap ((t:Int)+1)=((t+1:Nat):Int):=(IntWalk.i64_in _ (by omega)).trans (by omega);have hb1:(t:Int)≤(l.length:Int):=by omega
    have hb2:((t+1:Nat):Int)≤(l.length:Int):=by omega
    clear hb hge;go_wp2_with fail
    go_quiet (fail)
    go_wp2_with fail;refine bodyPost_ret (v:=.tuple #[.string ⟨(l.take t).toArray⟩,.string ⟨(l.drop (t+1)).toArray⟩,.bool true]) (by simp [results,Tryz.f107]) rfl ?_
    exact⟨by rw [HY.out],_,rfl⟩
   ·have ht1:((((⟨l.toArray⟩:ByteArray)[t]'hz1).toNat:Int) == (c.toNat:Int))=false:=by
     rw [hge]
     cases h:((((l[t]'htl).toNat:Nat):Int) == ((c.toNat:Nat):Int)) with
     | false=>rfl
     | true=>exact absurd ((byte_eq _ _).1 h) hb
    have HB:=ZZ hb;clear hb hge;have hw:IntKind.i64.wrap ((t:Int)+1)=((t+1:Nat):Int):=(IntWalk.i64_in _ (by omega)).trans (by omega);go_wp2_with fail
    go_roundg (gk - 1)
    case measure=>have:=HZ0.out;omega
    case rel=>
     refine⟨t+1,by have:=HT.out;have:=HZ0.out;omega,by first|rfl|simp,ZZ ?_,rfl⟩;rw [List.take_succ_eq_append_getElem HTL.out,List.mem_append,List.mem_singleton];rintro(h|h)
     ·exact HN.out h
     ·exact HB.out h.symm
theorem all_take {l:List UInt8} {t:Nat} (h:t<l.length) (ha:(l.take t).all isDig=true) (hd:isDig (l[t]'h)=true):(l.take (t+1)).all isDig=true:=by
 rw [List.take_succ_eq_append_getElem h,List.all_append,ha]
 simp [hd]
theorem digits_r (l:List UInt8) (hs:l.length≤9223372036854775807) (w:World):Calls Tryz.prog 109 #[.string ⟨l.toArray⟩] w fun e w'=>e=.returned (.bool (digB l))∧w'=w:=by
 have hsz:(⟨l.toArray⟩:ByteArray).size=l.length:=by simp [ByteArray.size]
 go_enter Tryz.func109,Tryz.ntmps109
 go_wp2_with fail
 go_loopg [3] (l.length) (fun k i wr=>∃t:Nat,t+k=l.length∧i=.int .i64 (t:Int)∧Hid ((l.take t).all isDig=true)∧wr=w)
 case atStart=>exact⟨0,by omega,rfl,ZZ (by simp),rfl⟩
 case round=>
  obtain⟨t,ht,rfl,HN,rfl⟩:=hrel
  rcases Nat.eq_zero_or_pos gk with hz|hz
  ·subst hz
   obtain rfl:t=l.length:=by omega
   have hall:=HN.out;rw [List.take_length] at hall
   have HD:=ZZ (show digB l=decide (0<l.length) by
    unfold digB;rw [hall,Bool.and_true]
    cases l <;> simp)
   clear hall
   by_cases h0:0<l.length
   ·have HD2:=ZZ (show digB l=true by rw [HD.out,decide_eq_true h0])
    have h3:decide ((0:Int)<(l.length:Int))=true:=decide_eq_true (by omega);have h2:decide (0<l.length)=true:=decide_eq_true h0;go_wp2_with fail;go_ret;exact⟨by rw [HD2.out];rfl,rfl⟩
   ·have h1:l.length=0:=by omega
    have HD2:=ZZ (show digB l=false by rw [HD.out,decide_eq_false h0]);have h2:decide (0<l.length)=false:=decide_eq_false h0;have h3:decide ((0:Int)<(l.length:Int))=false:=decide_eq_false (by omega);go_wp2_with fail;go_ret;exact⟨by rw [HD2.out];rfl,rfl⟩
  ·have hlt:(t:Int)<(l.length:Int):=by omega
   have htl:t<l.length:=by omega
   have hz1:t<(⟨l.toArray⟩:ByteArray).size:=by rw [hsz];exact htl
   have hge:(⟨l.toArray⟩:ByteArray)[t]'hz1=(l[t]'htl):=by rfl
   have HT:=ZZ ht;have HZ0:=ZZ hz;have HTL:=ZZ htl;have hw:IntKind.i64.wrap ((t:Int)+1)=((t+1:Nat):Int):=(IntWalk.i64_in _ (by omega)).trans (by omega);obtain⟨x,hx⟩:∃x:Nat,x=((l[t]'htl)).toNat:=⟨_,rfl⟩;have hxe:((⟨l.toArray⟩:ByteArray)[t]'hz1).toNat=x:=by rw [hge,hx]
   by_cases h1:x<48
   ·have ht1:decide ((((⟨l.toArray⟩:ByteArray)[t]'hz1).toNat:Int)<48)=true:=by rw [hxe];simp;omega
    have ht2:decide (((⟨l.toArray⟩:ByteArray)[t]'hz1).toNat<48)=true:=by rw [hxe];simp;omega
    have HNO:=ZZ (show digB l=false by
     unfold digB
     rw [show l.all isDig=false from by
      rw [List.all_eq_false];exact⟨(l[t]'htl),List.getElem_mem _,by cases hq:isDig (l[t]'htl) with
       | false=>exact Bool.false_ne_true
       | true=>exact absurd hq (by rw [isDig_iff,←hx];omega)⟩,Bool.and_false])
    clear hge hxe hx h1;go_wp2_with fail;go_ret;exact⟨by rw [HNO.out];rfl,rfl⟩
   ·have ht1:decide ((((⟨l.toArray⟩:ByteArray)[t]'hz1).toNat:Int)<48)=false:=by rw [hxe];simp;omega
    have ht2:decide (((⟨l.toArray⟩:ByteArray)[t]'hz1).toNat<48)=false:=by rw [hxe];simp;omega
    by_cases h2:57<x
    ·have ht3:decide ((57:Int)<(((⟨l.toArray⟩:ByteArray)[t]'hz1).toNat:Int))=true:=by rw [hxe];simp;omega
     have ht4:decide (57<((⟨l.toArray⟩:ByteArray)[t]'hz1).toNat)=true:=by rw [hxe];simp;omega
     have HNO:=ZZ (show digB l=false by
      unfold digB
      rw [show l.all isDig=false from by
       rw [List.all_eq_false];exact⟨(l[t]'htl),List.getElem_mem _,by cases hq:isDig (l[t]'htl) with
       | false=>exact Bool.false_ne_true
       | true=>exact absurd hq (by rw [isDig_iff,←hx];omega)⟩,Bool.and_false])
     clear hge hxe hx h1 h2;go_wp2_with fail;go_ret;exact⟨by rw [HNO.out];rfl,rfl⟩
    ·have ht3:decide ((57:Int)<(((⟨l.toArray⟩:ByteArray)[t]'hz1).toNat:Int))=false:=by rw [hxe];simp;omega
     have ht4:decide (57<((⟨l.toArray⟩:ByteArray)[t]'hz1).toNat)=false:=by rw [hxe];simp;omega
     have HAT:=ZZ (all_take HTL.out HN.out (by rw [isDig_iff,←hx];omega));clear hge hxe hx h1 h2;go_wp2_with fail
     go_roundg (gk - 1)
     case measure=>have:=HZ0.out;omega
     case rel=>exact⟨t+1,by have:=HT.out;have:=HZ0.out;omega,by first|rfl|simp,HAT,rfl⟩
end Go.Proofs.YtpgdefgdboijlaaGreatDoor
