/- The reference's natural numbers: differences, products, small numbers. Printed by gen_rc.py. -/
import Derived.Test.YtaaoleakkaloeaaGreatDoorGRb
set_option linter.unusedVariables false
set_option maxRecDepth 100000
set_option maxHeartbeats 64000000
namespace Go.Proofs.YtaaoleakkaloeaaGreatDoor
open Go.RowKit
theorem BkI.drewN {w:World} {g:Nat} {l:List Nat} (h:BkI w g l) (q:Nat):BkI (w.drewN q) g l:=h
theorem small_r (n:Nat) (hn:n<1152921504606846976) (w:World):Calls Tryz.prog 109 #[.int .i64 n] w fun e w'=>∃v,e=.returned v∧Wr w' v n∧Ext w w':=by
 obtain⟨d,c,hd,hdc,hd1,hc1⟩:=split30 n;rw [B30_eq] at hd;have hrem:(n:Int) % 1073741824=(d:Int):=by omega
 have hquo:(n:Int) / 1073741824=(c:Int):=by omega
 have hcb:c<1073741824:=by omega
 have hc:Cl (w.alloc (.cells #[.int .i64 (d:Int),.int .i64 (c:Int)] 2)) (some ⟨w.heap.size,0,none⟩) ([d,c].map i64n):=cl_new w [i64n d,i64n c] 2;have hw:=rcut_w (l:=[d,c]) (by intro x hx;simp at hx;rw [B30_eq];omega) hc (Nat.le_refl 2);have H:=ZZ hc;have H2:=ZZ hw;have H3:=ZZ hdc;clear hc hw hd1 hc1 hdc
 go_enter Tryz.func109,Tryz.ntmps109
 go_wp2_with fail;refine(rcut_c _ [d,c] _ _ H.out 2 rfl (by omega) (by omega)).mono ?_
 rintro e w' ⟨rfl,rfl⟩;go_wp2_with fail;go_ret;refine⟨_,rfl,?_,ac _ _⟩
 have:=H2.out
 rw [show num B30 [d,c]=n by simp;exact H3.out] at this;exact this
theorem minus_l (A B:Option Addr) (la lb:List Nat) (ca cb:Nat) (w:World) (n m:Nat) (hn:la.length=n) (hm:lb.length=m) (hA:Cl w A (la.map i64n)) (hB:Cl w B (lb.map i64n)) (hla:∀d ∈ la,d<B30) (hlb:∀d ∈ lb,d<B30) (hle:m≤n) (hnm:num B30 lb≤num B30 la) (hs:n≤2199023255552):Calls Tryz.prog 114 #[.slice A n ca,.slice B m cb] w fun e w'=>∃v,e=.returned v∧Wr w' v (num B30 la - num B30 lb)∧Ext w w'∧Fr w.heap.size v:=by
 have Hn:Hid (la.length=n):=hn;have Hm:Hid (lb.length=m):=hm;have Hla:=ZZ hla;have Hlb:=ZZ hlb;have hmk:=mk_digits n (n:Int) rfl (by omega);have Hle:=ZZ hle;have Hnm:=ZZ hnm;clear hn hm hla hlb hnm
 go_enter Tryz.func114,Tryz.ntmps114
 go_wp2_with fail
 go_loopw [6,7] (fun c i wr=>∃(k ls:Nat) (r:List Nat),k≤n∧i=.int .i64 k∧c=.int .i64 ls∧ls≤1∧r.length=n∧(∀d ∈ r,d<B30)∧BkI wr w.heap.size r∧Below w.heap.size w wr∧num B30 (r.take k)+num B30 (lb.take k)=num B30 (la.take k)+B30 ^ k*ls) (fun _ i _=>n - (intOf i).toNat)
 case atStart=>exact⟨0,0,zs n,Nat.zero_le _,rfl,rfl,by omega,zs_length _,zs_lt (by rw [B30_eq];omega) _,BkI.new _ _,ac _ _,by simp⟩
 case round=>
  clear hmk;obtain⟨k,ls,r,hk,rfl,rfl,hls,hr,hrl,hbk,hbel,hnum⟩:=hrel;have Hr:Hid (r.length=n):=hr;have Hrl:=ZZ hrl;have Hbk:Hid (BkI wr w.heap.size r):=hbk;have Hnum:=ZZ hnum;clear hr hrl hnum hbk
  by_cases hlt:k<n
  ·have hci:=Hbk.out.cell k (by rw [Hr.out];omega)
   have hfi:=Hbk.out.frozen k;have hxl:=getD_lt Hla.out (by rw [B30_eq];omega) k;have Htx:=ZZ (num_take_le B30 la k);have Hty:=ZZ (num_take_le B30 lb k);rw [B30_eq] at hxl;obtain⟨ba,oa,rfl,hca'⟩:=hA.i (by rw [Hn.out];omega);have ea:=ao hbel (hca' k (by rw [Hn.out];omega));clear hca' hA;generalize hgx:la.getD k 0=x at *;clear hgx;have hwk:IntKind.i64.wrap ((k:Int)+1)=((k+1:Nat):Int):=(IntWalk.i64_in _ (by omega)).trans (by omega);obtain⟨D1,hD1⟩:∃D1:Int,D1=(x:Int) - (ls:Int):=⟨_,rfl⟩;have hw1:IntKind.i64.wrap ((x:Int) - (ls:Int))=D1:=(IntWalk.i64_in _ (by omega)).trans (by omega)
   by_cases hkm:k<m
   ·obtain⟨bb,ob,rfl,hcb'⟩:=hB.i (by rw [Hm.out];omega)
    have eb:=ao hbel (hcb' k (by rw [Hm.out];omega));have hyl:=getD_lt Hlb.out (by rw [B30_eq];omega) k;rw [B30_eq] at hyl;clear hcb' hB;generalize hgy:lb.getD k 0=y at *;clear hgy;obtain⟨D2,hD2⟩:∃D2:Int,D2=D1 - (y:Int):=⟨_,rfl⟩;have hw2:IntKind.i64.wrap (D1 - (y:Int))=D2:=(IntWalk.i64_in _ (by omega)).trans (by omega)
    by_cases hng:D2<0
    ·have hneg:decide (D2<0)=true:=decide_eq_true hng
     obtain⟨s,hs⟩:∃s:Nat,(s:Int)=D2+1073741824:=⟨(D2+1073741824).toNat,by omega⟩;have hw3:IntKind.i64.wrap (D2+1073741824)=(s:Int):=(IntWalk.i64_in _ (by omega)).trans (by omega);have Hd:=ZZ (show s<B30 by rw [B30_eq];omega);have Hst:=ZZ (sub_step (s:=s) (c':=1) (B:=B30) Hnum.out (x:=x) (y:=y) (c:=ls) (by rw [B30_eq];omega));have Hset:=ZZ (Hbk.out.set_ k s)
     have Hrel:=ZZ (show num B30 ((r.set k s).take (k+1))+num B30 (lb.take (k+1))=num B30 (la.take (k+1))+B30 ^ (k+1)*1 by
      rw [num_set_take _ _ _ _ (by rw [Hr.out];omega),Htx.out,Hty.out,Nat.pow_succ];exact Hst.out)
     clear hng Hst hs hD1 hD2;go_wp2_with fail
     go_roundw
     case rel=>exact⟨k+1,1,r.set k s,by omega,by first|rfl|go_num,rfl,by omega,by rw [List.length_set,Hr.out],set_lt Hrl.out Hd.out k,Hset.out,hbel.setCell (Nat.le_refl _) _,Hrel.out⟩
     case measure=>simp [intOf];omega
    ·obtain⟨s,hs⟩:∃s:Nat,(s:Int)=D2:=⟨(D2).toNat,by omega⟩
     have hneg:decide ((s:Int)<0)=false:=decide_eq_false (by omega);have Hd:=ZZ (show s<B30 by rw [B30_eq];omega);have Hst:=ZZ (sub_step (s:=s) (c':=0) (B:=B30) Hnum.out (x:=x) (y:=y) (c:=ls) (by rw [B30_eq];omega));have Hset:=ZZ (Hbk.out.set_ k s)
     have Hrel:=ZZ (show num B30 ((r.set k s).take (k+1))+num B30 (lb.take (k+1))=num B30 (la.take (k+1))+B30 ^ (k+1)*0 by
      rw [num_set_take _ _ _ _ (by rw [Hr.out];omega),Htx.out,Hty.out,Nat.pow_succ];exact Hst.out)
     clear hng Hst  hD1 hD2;subst hs;go_wp2_with fail
     go_roundw
     case rel=>exact⟨k+1,0,r.set k s,by omega,by first|rfl|go_num,rfl,by omega,by rw [List.length_set,Hr.out],set_lt Hrl.out Hd.out k,Hset.out,hbel.setCell (Nat.le_refl _) _,Hrel.out⟩
     case measure=>simp [intOf];omega
   ·have ey:lb.getD k 0=0:=by rw [List.getD_eq_getElem?_getD,List.getElem?_eq_none (by rw [Hm.out];omega)];rfl
    rw [ey] at Hty;clear ey
    by_cases hng:D1<0
    ·have hneg:decide (D1<0)=true:=decide_eq_true hng
     obtain⟨s,hs⟩:∃s:Nat,(s:Int)=D1+1073741824:=⟨(D1+1073741824).toNat,by omega⟩;have hw3:IntKind.i64.wrap (D1+1073741824)=(s:Int):=(IntWalk.i64_in _ (by omega)).trans (by omega);have Hd:=ZZ (show s<B30 by rw [B30_eq];omega);have Hst:=ZZ (sub_step (s:=s) (c':=1) (B:=B30) Hnum.out (x:=x) (y:=0) (c:=ls) (by rw [B30_eq];omega));have Hset:=ZZ (Hbk.out.set_ k s)
     have Hrel:=ZZ (show num B30 ((r.set k s).take (k+1))+num B30 (lb.take (k+1))=num B30 (la.take (k+1))+B30 ^ (k+1)*1 by
      rw [num_set_take _ _ _ _ (by rw [Hr.out];omega),Htx.out,Hty.out,Nat.pow_succ];exact Hst.out)
     clear hng Hst hs hD1;go_wp2_with fail
     go_roundw
     case rel=>exact⟨k+1,1,r.set k s,by omega,by first|rfl|go_num,rfl,by omega,by rw [List.length_set,Hr.out],set_lt Hrl.out Hd.out k,Hset.out,hbel.setCell (Nat.le_refl _) _,Hrel.out⟩
     case measure=>simp [intOf];omega
    ·obtain⟨s,hs⟩:∃s:Nat,(s:Int)=D1:=⟨(D1).toNat,by omega⟩
     have hneg:decide ((s:Int)<0)=false:=decide_eq_false (by omega);have Hd:=ZZ (show s<B30 by rw [B30_eq];omega);have Hst:=ZZ (sub_step (s:=s) (c':=0) (B:=B30) Hnum.out (x:=x) (y:=0) (c:=ls) (by rw [B30_eq];omega));have Hset:=ZZ (Hbk.out.set_ k s)
     have Hrel:=ZZ (show num B30 ((r.set k s).take (k+1))+num B30 (lb.take (k+1))=num B30 (la.take (k+1))+B30 ^ (k+1)*0 by
      rw [num_set_take _ _ _ _ (by rw [Hr.out];omega),Htx.out,Hty.out,Nat.pow_succ];exact Hst.out)
     clear hng Hst  hD1;subst hs;go_wp2_with fail
     go_roundw
     case rel=>exact⟨k+1,0,r.set k s,by omega,by first|rfl|go_num,rfl,by omega,by rw [List.length_set,Hr.out],set_lt Hrl.out Hd.out k,Hset.out,hbel.setCell (Nat.le_refl _) _,Hrel.out⟩
     case measure=>simp [intOf];omega
  ·have hkn:k=n:=by omega
   subst hkn;have HC:=ZZ Hbk.out.cl;go_wp2_with fail;refine(rcut_c _ r _ _ HC.out k Hr.out (by omega) (by omega)).mono ?_;rintro e w2 ⟨rfl,rfl⟩;go_wp2_with fail;go_ret;refine⟨_,rfl,?_,hbel,fun b hb=>by cases hb;exact Nat.le_refl _⟩;have h1:=Hnum.out;rw [num_take_all B30 la (by rw [Hn.out];omega),num_take_all B30 lb (by rw [Hm.out];have:=Hle.out;omega),num_take_all B30 r (by rw [Hr.out];omega)] at h1;have h3:=num_lt B30 r Hrl.out;rw [Hr.out] at h3;have h4:=Hnm.out
   have h5:ls=0:=by
    rcases(show ls=0∨ls=1 by omega) with h|h
    ·exact h
    ·subst h;rw [Nat.mul_one] at h1;omega
   subst h5;have h2:=rcut_w Hrl.out HC.out (c:=k) (by rw [Hr.out];omega);rw [show num B30 la - num B30 lb=num B30 r by rw [Nat.mul_zero] at h1;omega];exact h2
theorem minus_f (va vb:Value) (m n:Nat) (w:World) (ha:Wr w va m) (hb:Wr w vb n) (sa:Sr m) (hle:n≤m):Calls Tryz.prog 114 #[va,vb] w fun e w'=>∃v,e=.returned v∧Wr w' v (m - n)∧Ext w w'∧Fr w.heap.size v:=by
 obtain⟨A,ca,rfl,hca,hA⟩:=ha;obtain⟨B,cb,rfl,hcb,hB⟩:=hb;unfold Sr at sa
 have hl:(dr n).length≤(dr m).length:=by
  rcases Nat.lt_or_ge (dr m).length (dr n).length with h|h
  ·have:=num_lt_of_length B30_two (dr_lt m) (dr_norm n) h
   rw [num_dr,num_dr] at this;omega
  ·exact h
 have h:=minus_l A B (dr m) (dr n) ca cb w _ _ rfl rfl hA hB (dr_lt m) (dr_lt n) hl (by rw [num_dr,num_dr];exact hle) (by omega)
 rwa [num_dr,num_dr] at h
theorem minus_r (va vb:Value) (m n:Nat) (w:World) (ha:Wr w va m) (hb:Wr w vb n) (sa:Sr m) (hle:n≤m):Calls Tryz.prog 114 #[va,vb] w fun e w'=>∃v,e=.returned v∧Wr w' v (m - n)∧Ext w w':=
 (minus_f va vb m n w ha hb sa hle).mono fun e w' ⟨v,h1,h2,h3,_⟩=>⟨v,h1,h2,h3⟩
theorem times_bound {x y o cy s d c:Nat} (hx:x<1073741824) (hy:y<1073741824) (ho:o<1073741824) (hc:cy<1073741824) (hs:s=cy+x*y+o) (hd:d+B30*c=s):c<1073741824∧s<1152921504606846976:=by
 have h1:x*y≤1073741823*1073741823:=Nat.mul_le_mul (by omega) (by omega);rw [B30_eq] at hd;omega
theorem times_l (A B:Option Addr) (la lb:List Nat) (ca cb:Nat) (w:World) (n m:Nat) (hn:la.length=n) (hm:lb.length=m) (hA:Cl w A (la.map i64n)) (hB:Cl w B (lb.map i64n)) (hla:∀d ∈ la,d<B30) (hlb:∀d ∈ lb,d<B30) (hs:n+m≤2199023255552):Calls Tryz.prog 108 #[.slice A n ca,.slice B m cb] w fun e w'=>∃v,e=.returned v∧Wr w' v (num B30 la*num B30 lb)∧Ext w w'∧Fr w.heap.size v:=by
 have Hn:Hid (la.length=n):=hn;have Hm:Hid (lb.length=m):=hm;have Hla:=ZZ hla;have Hlb:=ZZ hlb;have hmk:=mk_digits (n+m) ((n:Int)+(m:Int)) (by omega) (by omega);clear hn hm hla hlb
 go_enter Tryz.func108,Tryz.ntmps108
 go_wp2_with fail
 go_loopw [6] (fun i wr=>∃(k:Nat) (r:List Nat),k≤n∧i=.int .i64 k∧r.length=n+m∧(∀d ∈ r,d<B30)∧BkI wr w.heap.size r∧Below w.heap.size w wr∧num B30 r=num B30 (la.take k)*num B30 lb∧∀j,k+m≤j→r.getD j 0=0) (fun i _=>n - (intOf i).toNat)
 case atStart=>exact⟨0,zs (n+m),Nat.zero_le _,rfl,zs_length _,zs_lt (by rw [B30_eq];omega) _,BkI.new _ _,ac _ _,by simp [zs,num_replicate_zero],fun j _=>by
   simp [zs,List.getD_eq_getElem?_getD,List.getElem?_replicate];split <;> rfl⟩
 case round=>
  clear hmk;obtain⟨k,r,hk,rfl,hr,hrl,hbk,hbel,hnum,hz⟩:=hrel;obtain⟨wo,rfl⟩:∃wo:World,wo=wr:=⟨_,rfl⟩;have Hr:Hid (r.length=n+m):=hr;have Hrl:=ZZ hrl;have Hbk:Hid (BkI wo w.heap.size r):=hbk;have Hnum:=ZZ hnum;have Hz:=ZZ hz;clear hr hrl hnum hbk hz
  by_cases hlt:k<n
  ·obtain⟨ba,oa,rfl,hca'⟩:=hA.i (by rw [Hn.out];omega)
   have HEA:=ZZ (hca' k (by rw [Hn.out];omega));have hxl:=getD_lt Hla.out (by rw [B30_eq];omega) k;have Htk:Hid (num B30 (la.take (k+1))=num B30 (la.take k)+B30 ^ k*la.getD k 0):=num_take_le _ _ _;clear hca' hA;rw [B30_eq] at hxl;generalize la.getD k 0=x at *;go_wp2_with fail
   go_loopw [7,8] (fun c j wr=>∃(t cy:Nat) (r:List Nat),t≤m∧j=.int .i64 t∧c=.int .i64 cy∧cy<B30∧r.length=n+m∧(∀d ∈ r,d<B30)∧BkI wr w.heap.size r∧Below w.heap.size w wr∧num B30 r+B30 ^ k*B30 ^ t*cy=num B30 (la.take k)*num B30 lb+B30 ^ k*x*num B30 (lb.take t)∧∀j,k+m≤j→r.getD j 0=0) (fun _ j _=>m - (intOf j).toNat)
   case atStart=>exact⟨0,0,r,Nat.zero_le _,rfl,rfl,by rw [B30_eq];omega,Hr.out,Hrl.out,Hbk.out,hbel,by rw [Hnum.out];simp,Hz.out⟩
   case round=>
    clear Hr Hrl Hbk Hnum Hz hbel;obtain⟨t,cy,r,ht,rfl,rfl,hcy,hr,hrl,hbk,hbel,hnum,hz⟩:=hrel;have Hr:Hid (r.length=n+m):=hr;have Hrl:=ZZ hrl;have Hbk:Hid (BkI wr w.heap.size r):=hbk;have Hnum:=ZZ hnum;have Hz:=ZZ hz;clear hr hrl hnum hbk hz;rw [B30_eq] at hcy
    by_cases hltm:t<m
    ·obtain⟨bb,ob,rfl,hcb'⟩:=hB.i (by rw [Hm.out];omega)
     have ea:=ao hbel HEA.out;have eb:=ao hbel (hcb' t (by rw [Hm.out];omega));have hyl:=getD_lt Hlb.out (by rw [B30_eq];omega) t;have Htt:Hid (num B30 (lb.take (t+1))=num B30 (lb.take t)+B30 ^ t*lb.getD t 0):=num_take_le _ _ _;clear hcb' hB;rw [B30_eq] at hyl;generalize lb.getD t 0=y at *;have hci:=Hbk.out.cell (k+t) (by rw [Hr.out];omega);have hfi:=Hbk.out.frozen (k+t);have hol:=getD_lt Hrl.out (by rw [B30_eq];omega) (k+t);have hns:=fun s=>num_set B30 r (k+t) s (by rw [Hr.out];omega);have Hns:=ZZ hns;clear hns;rw [B30_eq] at hol;generalize r.getD (k+t) 0=o at *;obtain⟨p,hp⟩:∃p:Nat,p=x*y:=⟨_,rfl⟩;obtain⟨s1,hs1⟩:∃s1:Nat,s1=cy+p:=⟨_,rfl⟩;obtain⟨s,hs2⟩:∃s:Nat,s=s1+o:=⟨_,rfl⟩;obtain⟨d,c',hd,hdc,hd1,hc1'⟩:=split30 s;obtain⟨hcb,hsb⟩:=times_bound hxl hyl hol hcy (by rw [hs2,hs1,hp]) hdc
     have hw1:IntKind.i64.wrap ((x:Int)*(y:Int))=(p:Int):=by
      rw [show (x:Int)*(y:Int)=(p:Int) by rw [hp];push_cast;rfl];exact IntWalk.i64_in _ (by omega)
     have hw2:IntKind.i64.wrap ((cy:Int)+(p:Int))=(s1:Int):=(IntWalk.i64_in _ (by omega)).trans (by omega);have hw3:IntKind.i64.wrap ((s1:Int)+(o:Int))=(s:Int):=(IntWalk.i64_in _ (by omega)).trans (by omega);have hrem:(s:Int) % 1073741824=(d:Int):=by omega
     have hquo:(s:Int) / 1073741824=(c':Int):=by omega
     have hdb:d<1073741824:=by omega
     have hw4:IntKind.i64.wrap ((k:Int)+(t:Int))=((k+t:Nat):Int):=(IntWalk.i64_in _ (by omega)).trans (by omega);have Hd:=ZZ hd;have Hc':=ZZ (show c'<B30 by rw [B30_eq];exact hcb);have Hstep:=ZZ (show d+B30*c'=x*y+o+cy by omega);have HB:=ZZ hbel;have Hset:=ZZ (fun q:Nat=>(Hbk.out.drewN q).set_ (k+t) d);clear hd1 hc1' hdc hd hs2 hs1 hp hbel;go_wp2_with fail
     go_quiet (fail)
     go_wp2_with fail
     go_roundw
     case rel=>
      refine⟨t+1,c',r.set (k+t) d,by omega,by first|rfl|go_num,rfl,Hc'.out,by rw [List.length_set,Hr.out],set_lt Hrl.out Hd.out _,Hset.out _,(al HB.out (av _ _)).setCell (Nat.le_refl _) _,?_,fun j hj=>by rw [getD_set_ne (by omega)];exact Hz.out j hj⟩;have h5:=Hns.out d;rw [Nat.pow_add] at h5;rw [Htt.out,Nat.pow_succ,←Nat.mul_assoc];exact mul_step Hnum.out Hstep.out h5
     case measure=>simp [intOf];omega
    ·have htm:t=m:=by omega
     subst htm;have hci:=Hbk.out.cell (k+t) (by rw [Hr.out];omega);have hfi:=Hbk.out.frozen (k+t);have Hset:=ZZ (Hbk.out.set_ (k+t) cy);have Hcy:=ZZ (show cy<B30 by rw [B30_eq];exact hcy);clear hcy;go_wp2_with fail
     go_roundw
     case rel=>
      refine⟨k+1,r.set (k+t) cy,by omega,by first|rfl|go_num,by rw [List.length_set,Hr.out],set_lt Hrl.out Hcy.out _,Hset.out,hbel.setCell (Nat.le_refl _) _,?_,fun j hj=>by rw [getD_set_ne (by omega)];exact Hz.out j (by omega)⟩;have h5:=num_set B30 r (k+t) cy (by rw [Hr.out];omega);rw [Hz.out (k+t) (Nat.le_refl _),Nat.mul_zero,Nat.add_zero,Nat.pow_add] at h5;rw [h5,Hnum.out,num_take_all B30 lb (by rw [Hm.out];omega),Htk.out,Nat.add_mul]
     case measure=>simp [intOf];omega
  ·have hkn:k=n:=by omega
   subst hkn;have Hc:=Hbk.out.cl;have HC:=ZZ Hc;clear Hc;go_wp2_with fail;refine(rcut_c _ r _ _ HC.out (k+m) Hr.out (by omega) (by omega)).mono ?_;rintro e w2 ⟨rfl,rfl⟩;go_wp2_with fail;go_ret;refine⟨_,rfl,?_,hbel,fun b hb=>Nat.le_of_eq (Option.some.inj hb)⟩
   have:=rcut_w Hrl.out HC.out (c:=k+m) (by rw [Hr.out];omega)
   rw [Hnum.out,num_take_all B30 la (by rw [Hn.out];omega)] at this;exact this
theorem times_f (va vb:Value) (m n:Nat) (w:World) (ha:Wr w va m) (hb:Wr w vb n) (sa:Sr m) (sb:Sr n):Calls Tryz.prog 108 #[va,vb] w fun e w'=>∃v,e=.returned v∧Wr w' v (m*n)∧Ext w w'∧Fr w.heap.size v:=by
 obtain⟨A,ca,rfl,hca,hA⟩:=ha;obtain⟨B,cb,rfl,hcb,hB⟩:=hb;have h:=times_l A B (dr m) (dr n) ca cb w _ _ rfl rfl hA hB (dr_lt m) (dr_lt n) (by unfold Sr at sa sb;omega)
 rwa [num_dr,num_dr] at h
theorem times_r (va vb:Value) (m n:Nat) (w:World) (ha:Wr w va m) (hb:Wr w vb n) (sa:Sr m) (sb:Sr n):Calls Tryz.prog 108 #[va,vb] w fun e w'=>∃v,e=.returned v∧Wr w' v (m*n)∧Ext w w':=
 (times_f va vb m n w ha hb sa sb).mono fun e w' ⟨v,h1,h2,h3,_⟩=>⟨v,h1,h2,h3⟩
end Go.Proofs.YtaaoleakkaloeaaGreatDoor
