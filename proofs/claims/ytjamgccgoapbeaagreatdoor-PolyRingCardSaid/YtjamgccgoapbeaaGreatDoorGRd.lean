/- The reference's natural numbers: differences, products, small numbers. Printed by gen_rc.py. The reference's natural numbers: binary digits, trailing zeros, short numbers. -/
import Derived.Test.YtjamgccgoapbeaaGreatDoorGRb
import Derived.Test.YtjamgccgoapbeaaGreatDoorGWf
set_option linter.unusedVariables false
set_option maxRecDepth 100000
set_option maxHeartbeats 64000000
namespace Go.Proofs.YtjamgccgoapbeaaGreatDoor
open Go.RowKit
def Fr (B:Nat) (v:Value):Prop:=∀b,v.ownBlock=some b→B≤b
theorem BkI.drewN {w:World} {g:Nat} {l:List Nat} (h:BkI w g l) (q:Nat):BkI (w.drewN q) g l:=h
theorem small_r (n:Nat) (hn:n<1152921504606846976) (w:World):Calls Tryz.prog 167 #[.int .i64 n] w fun e w'=>∃v,e=.returned v∧Wr w' v n∧Ext w w':=by
 obtain⟨d,c,hd,hdc,hd1,hc1⟩:=split30 n;rw [B30_eq] at hd;have hrem:(n:Int) % 1073741824=(d:Int):=by omega
 have hquo:(n:Int) / 1073741824=(c:Int):=by omega
 have hcb:c<1073741824:=by omega
 have hc:Cl (w.alloc (.cells #[.int .i64 (d:Int),.int .i64 (c:Int)] 2)) (some ⟨w.heap.size,0,none⟩) ([d,c].map i64n):=cl_new w [i64n d,i64n c] 2;have hw:=rcut_w (l:=[d,c]) (by intro x hx;simp at hx;rw [B30_eq];omega) hc (Nat.le_refl 2);have H:=ZZ hc;have H2:=ZZ hw;have H3:=ZZ hdc;clear hc hw hd1 hc1 hdc
 go_enter Tryz.func167,Tryz.ntmps167
 go_wp2_with fail;refine(rcut_c _ [d,c] _ _ H.out 2 rfl (by omega) (by omega)).mono ?_
 rintro e w' ⟨rfl,rfl⟩;go_wp2_with fail;go_ret;refine⟨_,rfl,?_,ab _ _⟩
 have:=H2.out
 rw [show num B30 [d,c]=n by simp;exact H3.out] at this;exact this
theorem minus_l (A B:Option Addr) (la lb:List Nat) (ca cb:Nat) (w:World) (n m:Nat) (hn:la.length=n) (hm:lb.length=m) (hA:Cl w A (la.map i64n)) (hB:Cl w B (lb.map i64n)) (hla:∀d ∈ la,d<B30) (hlb:∀d ∈ lb,d<B30) (hle:m≤n) (hnm:num B30 lb≤num B30 la) (hs:n≤2199023255552):Calls Tryz.prog 139 #[.slice A n ca,.slice B m cb] w fun e w'=>∃v,e=.returned v∧Wr w' v (num B30 la - num B30 lb)∧Ext w w'∧Fr w.heap.size v:=by
 have Hn:Hid (la.length=n):=hn;have Hm:Hid (lb.length=m):=hm;have Hla:=ZZ hla;have Hlb:=ZZ hlb;have hmk:=mk_digits n (n:Int) rfl (by omega);have Hle:=ZZ hle;have Hnm:=ZZ hnm;clear hn hm hla hlb hnm
 go_enter Tryz.func139,Tryz.ntmps139
 go_wp2_with fail
 go_loopw [6,7] (fun c i wr=>∃(k ls:Nat) (r:List Nat),k≤n∧i=.int .i64 k∧c=.int .i64 ls∧ls≤1∧r.length=n∧(∀d ∈ r,d<B30)∧BkI wr w.heap.size r∧Below w.heap.size w wr∧num B30 (r.take k)+num B30 (lb.take k)=num B30 (la.take k)+B30 ^ k*ls) (fun _ i _=>n - (intOf i).toNat)
 case atStart=>exact⟨0,0,zs n,Nat.zero_le _,rfl,rfl,by omega,zs_length _,zs_lt (by rw [B30_eq];omega) _,BkI.new _ _,ab _ _,by simp⟩
 case round=>
  clear hmk;obtain⟨k,ls,r,hk,rfl,rfl,hls,hr,hrl,hbk,hbel,hnum⟩:=hrel;have Hr:Hid (r.length=n):=hr;have Hrl:=ZZ hrl;have Hbk:Hid (BkI wr w.heap.size r):=hbk;have Hnum:=ZZ hnum;clear hr hrl hnum hbk
  by_cases hlt:k<n
  ·have hci:=Hbk.out.cell k (by rw [Hr.out];omega)
   have hfi:=Hbk.out.frozen k;have hxl:=getD_lt Hla.out (by rw [B30_eq];omega) k;have Htx:=ZZ (num_take_le B30 la k);have Hty:=ZZ (num_take_le B30 lb k);rw [B30_eq] at hxl;obtain⟨ba,oa,rfl,hca'⟩:=hA.i (by rw [Hn.out];omega);have ea:=ap hbel (hca' k (by rw [Hn.out];omega));clear hca' hA;generalize hgx:la.getD k 0=x at *;clear hgx;have hwk:IntKind.i64.wrap ((k:Int)+1)=((k+1:Nat):Int):=(IntWalk.i64_in _ (by omega)).trans (by omega);obtain⟨D1,hD1⟩:∃D1:Int,D1=(x:Int) - (ls:Int):=⟨_,rfl⟩;have hw1:IntKind.i64.wrap ((x:Int) - (ls:Int))=D1:=(IntWalk.i64_in _ (by omega)).trans (by omega)
   by_cases hkm:k<m
   ·obtain⟨bb,ob,rfl,hcb'⟩:=hB.i (by rw [Hm.out];omega)
    have eb:=ap hbel (hcb' k (by rw [Hm.out];omega));have hyl:=getD_lt Hlb.out (by rw [B30_eq];omega) k;rw [B30_eq] at hyl;clear hcb' hB;generalize hgy:lb.getD k 0=y at *;clear hgy;obtain⟨D2,hD2⟩:∃D2:Int,D2=D1 - (y:Int):=⟨_,rfl⟩;have hw2:IntKind.i64.wrap (D1 - (y:Int))=D2:=(IntWalk.i64_in _ (by omega)).trans (by omega)
    by_cases hng:D2<0
    ·have hneg:decide (D2<0)=true:=decide_eq_true hng
     obtain⟨s,hs⟩:∃s:Nat,(s:Int)=D2+1073741824:=⟨(D2+1073741824).toNat,by omega⟩;have hw3:IntKind.i64.wrap (D2+1073741824)=(s:Int):=(IntWalk.i64_in _ (by omega)).trans (by omega);have Hd:=ZZ (show s<B30 by rw [B30_eq];omega);have Hst:=ZZ (sub_step (s:=s) (c':=1) (B:=B30) Hnum.out (x:=x) (y:=y) (c:=ls) (by rw [B30_eq];omega));have Hset:=ZZ (Hbk.out.set_ k s)
     have Hrel:=ZZ (show num B30 ((r.set k s).take (k+1))+num B30 (lb.take (k+1))=num B30 (la.take (k+1))+B30 ^ (k+1)*1 by
      rw [num_set_take _ _ _ _ (by rw [Hr.out];omega),Htx.out,Hty.out,Nat.pow_succ];exact Hst.out)
     clear hng Hst hs hD1 hD2;go_wp2_with fail
     go_roundw
     case rel=>exact⟨k+1,1,r.set k s,by omega,by first|rfl|go_num,rfl,by omega,by rw [List.length_set,Hr.out],set_lt Hrl.out Hd.out k,Hset.out,hbel.setCell (Nat.le_refl _) _,Hrel.out⟩
     case measure=>simp [intOf];omega
    ·obtain⟨s,hs⟩:∃s:Nat,(s:Int)=D2:=⟨(D2).toNat,by omega⟩
     have hneg:decide ((s:Int)<0)=false:=decide_eq_false (by omega);have Hd:=ZZ (show s<B30 by rw [B30_eq];omega);have Hst:=ZZ (sub_step (s:=s) (c':=0) (B:=B30) Hnum.out (x:=x) (y:=y) (c:=ls) (by rw [B30_eq];omega));have Hset:=ZZ (Hbk.out.set_ k s)
     have Hrel:=ZZ (show num B30 ((r.set k s).take (k+1))+num B30 (lb.take (k+1))=num B30 (la.take (k+1))+B30 ^ (k+1)*0 by
      rw [num_set_take _ _ _ _ (by rw [Hr.out];omega),Htx.out,Hty.out,Nat.pow_succ];exact Hst.out)
     clear hng Hst  hD1 hD2;subst hs;go_wp2_with fail
     go_roundw
     case rel=>exact⟨k+1,0,r.set k s,by omega,by first|rfl|go_num,rfl,by omega,by rw [List.length_set,Hr.out],set_lt Hrl.out Hd.out k,Hset.out,hbel.setCell (Nat.le_refl _) _,Hrel.out⟩
     case measure=>simp [intOf];omega
   ·have ey:lb.getD k 0=0:=by rw [List.getD_eq_getElem?_getD,List.getElem?_eq_none (by rw [Hm.out];omega)];rfl
    rw [ey] at Hty;clear ey
    by_cases hng:D1<0
    ·have hneg:decide (D1<0)=true:=decide_eq_true hng
     obtain⟨s,hs⟩:∃s:Nat,(s:Int)=D1+1073741824:=⟨(D1+1073741824).toNat,by omega⟩;have hw3:IntKind.i64.wrap (D1+1073741824)=(s:Int):=(IntWalk.i64_in _ (by omega)).trans (by omega);have Hd:=ZZ (show s<B30 by rw [B30_eq];omega);have Hst:=ZZ (sub_step (s:=s) (c':=1) (B:=B30) Hnum.out (x:=x) (y:=0) (c:=ls) (by rw [B30_eq];omega));have Hset:=ZZ (Hbk.out.set_ k s)
     have Hrel:=ZZ (show num B30 ((r.set k s).take (k+1))+num B30 (lb.take (k+1))=num B30 (la.take (k+1))+B30 ^ (k+1)*1 by
      rw [num_set_take _ _ _ _ (by rw [Hr.out];omega),Htx.out,Hty.out,Nat.pow_succ];exact Hst.out)
     clear hng Hst hs hD1;go_wp2_with fail
     go_roundw
     case rel=>exact⟨k+1,1,r.set k s,by omega,by first|rfl|go_num,rfl,by omega,by rw [List.length_set,Hr.out],set_lt Hrl.out Hd.out k,Hset.out,hbel.setCell (Nat.le_refl _) _,Hrel.out⟩
     case measure=>simp [intOf];omega
    ·obtain⟨s,hs⟩:∃s:Nat,(s:Int)=D1:=⟨(D1).toNat,by omega⟩
     have hneg:decide ((s:Int)<0)=false:=decide_eq_false (by omega);have Hd:=ZZ (show s<B30 by rw [B30_eq];omega);have Hst:=ZZ (sub_step (s:=s) (c':=0) (B:=B30) Hnum.out (x:=x) (y:=0) (c:=ls) (by rw [B30_eq];omega));have Hset:=ZZ (Hbk.out.set_ k s)
     have Hrel:=ZZ (show num B30 ((r.set k s).take (k+1))+num B30 (lb.take (k+1))=num B30 (la.take (k+1))+B30 ^ (k+1)*0 by
      rw [num_set_take _ _ _ _ (by rw [Hr.out];omega),Htx.out,Hty.out,Nat.pow_succ];exact Hst.out)
     clear hng Hst  hD1;subst hs;go_wp2_with fail
     go_roundw
     case rel=>exact⟨k+1,0,r.set k s,by omega,by first|rfl|go_num,rfl,by omega,by rw [List.length_set,Hr.out],set_lt Hrl.out Hd.out k,Hset.out,hbel.setCell (Nat.le_refl _) _,Hrel.out⟩
     case measure=>simp [intOf];omega
  ·have hkn:k=n:=by omega
   subst hkn;have HC:=ZZ Hbk.out.cl;go_wp2_with fail;refine(rcut_c _ r _ _ HC.out k Hr.out (by omega) (by omega)).mono ?_;rintro e w2 ⟨rfl,rfl⟩;go_wp2_with fail;go_ret;refine⟨_,rfl,?_,hbel,fun b hb=>by cases hb;exact Nat.le_refl _⟩;have h1:=Hnum.out;rw [num_take_all B30 la (by rw [Hn.out];omega),num_take_all B30 lb (by rw [Hm.out];have:=Hle.out;omega),num_take_all B30 r (by rw [Hr.out];omega)] at h1;have h3:=num_lt B30 r Hrl.out;rw [Hr.out] at h3;have h4:=Hnm.out
   have h5:ls=0:=by
    rcases(show ls=0∨ls=1 by omega) with h|h
    ·exact h
    ·subst h;rw [Nat.mul_one] at h1;omega
   subst h5;have h2:=rcut_w Hrl.out HC.out (c:=k) (by rw [Hr.out];omega);rw [show num B30 la - num B30 lb=num B30 r by rw [Nat.mul_zero] at h1;omega];exact h2
theorem minus_f (va vb:Value) (m n:Nat) (w:World) (ha:Wr w va m) (hb:Wr w vb n) (sa:Sr m) (hle:n≤m):Calls Tryz.prog 139 #[va,vb] w fun e w'=>∃v,e=.returned v∧Wr w' v (m - n)∧Ext w w'∧Fr w.heap.size v:=by
 obtain⟨A,ca,rfl,hca,hA⟩:=ha;obtain⟨B,cb,rfl,hcb,hB⟩:=hb;unfold Sr at sa
 have hl:(dr n).length≤(dr m).length:=by
  rcases Nat.lt_or_ge (dr m).length (dr n).length with h|h
  ·have:=num_lt_of_length B30_two (dr_lt m) (dr_norm n) h
   rw [num_dr,num_dr] at this;omega
  ·exact h
 have h:=minus_l A B (dr m) (dr n) ca cb w _ _ rfl rfl hA hB (dr_lt m) (dr_lt n) hl (by rw [num_dr,num_dr];exact hle) (by omega)
 rwa [num_dr,num_dr] at h
theorem minus_r (va vb:Value) (m n:Nat) (w:World) (ha:Wr w va m) (hb:Wr w vb n) (sa:Sr m) (hle:n≤m):Calls Tryz.prog 139 #[va,vb] w fun e w'=>∃v,e=.returned v∧Wr w' v (m - n)∧Ext w w':=
 (minus_f va vb m n w ha hb sa hle).mono fun e w' ⟨v,h1,h2,h3,_⟩=>⟨v,h1,h2,h3⟩
theorem times_bound {x y o cy s d c:Nat} (hx:x<1073741824) (hy:y<1073741824) (ho:o<1073741824) (hc:cy<1073741824) (hs:s=cy+x*y+o) (hd:d+B30*c=s):c<1073741824∧s<1152921504606846976:=by
 have h1:x*y≤1073741823*1073741823:=Nat.mul_le_mul (by omega) (by omega);rw [B30_eq] at hd;omega
theorem times_l (A B:Option Addr) (la lb:List Nat) (ca cb:Nat) (w:World) (n m:Nat) (hn:la.length=n) (hm:lb.length=m) (hA:Cl w A (la.map i64n)) (hB:Cl w B (lb.map i64n)) (hla:∀d ∈ la,d<B30) (hlb:∀d ∈ lb,d<B30) (hs:n+m≤2199023255552):Calls Tryz.prog 136 #[.slice A n ca,.slice B m cb] w fun e w'=>∃v,e=.returned v∧Wr w' v (num B30 la*num B30 lb)∧Ext w w'∧Fr w.heap.size v:=by
 have Hn:Hid (la.length=n):=hn;have Hm:Hid (lb.length=m):=hm;have Hla:=ZZ hla;have Hlb:=ZZ hlb;have hmk:=mk_digits (n+m) ((n:Int)+(m:Int)) (by omega) (by omega);clear hn hm hla hlb
 go_enter Tryz.func136,Tryz.ntmps136
 go_wp2_with fail
 go_loopw [6] (fun i wr=>∃(k:Nat) (r:List Nat),k≤n∧i=.int .i64 k∧r.length=n+m∧(∀d ∈ r,d<B30)∧BkI wr w.heap.size r∧Below w.heap.size w wr∧num B30 r=num B30 (la.take k)*num B30 lb∧∀j,k+m≤j→r.getD j 0=0) (fun i _=>n - (intOf i).toNat)
 case atStart=>exact⟨0,zs (n+m),Nat.zero_le _,rfl,zs_length _,zs_lt (by rw [B30_eq];omega) _,BkI.new _ _,ab _ _,by simp [zs,num_replicate_zero],fun j _=>by
   simp [zs,List.getD_eq_getElem?_getD,List.getElem?_replicate];split <;> rfl⟩
 case round=>
  clear hmk;obtain⟨k,r,hk,rfl,hr,hrl,hbk,hbel,hnum,hz⟩:=hrel;obtain⟨wo,rfl⟩:∃wo:World,wo=wr:=⟨_,rfl⟩;have Hr:Hid (r.length=n+m):=hr;have Hrl:=ZZ hrl;have Hbk:Hid (BkI wo w.heap.size r):=hbk;have Hnum:=ZZ hnum;have Hz:=ZZ hz;clear hr hrl hnum hbk hz
  by_cases hlt:k<n
  ·obtain⟨ba,oa,rfl,hca'⟩:=hA.i (by rw [Hn.out];omega)
   have HEA:=ZZ (hca' k (by rw [Hn.out];omega));have hxl:=getD_lt Hla.out (by rw [B30_eq];omega) k;have Htk:Hid (num B30 (la.take (k+1))=num B30 (la.take k)+B30 ^ k*la.getD k 0):=num_take_le _ _ _;clear hca' hA;rw [B30_eq] at hxl;generalize la.getD k 0=x at *;go_wp2_with fail
   go_loopw [7,8] (fun c j wr=>∃(t cy:Nat) (r:List Nat),t≤m∧j=.int .i64 t∧c=.int .i64 cy∧cy<B30∧r.length=n+m∧(∀d ∈ r,d<B30)∧BkI wr w.heap.size r∧Below w.heap.size w wr∧num B30 r+B30 ^ k*B30 ^ t*cy=num B30 (la.take k)*num B30 lb+B30 ^ k*x*num B30 (lb.take t)∧∀j,k+m≤j→r.getD j 0=0) (fun _ j _=>m - (intOf j).toNat)
   case atStart=>exact⟨0,0,r,Nat.zero_le _,rfl,rfl,by rw [B30_eq];omega,Hr.out,Hrl.out,Hbk.out,hbel,by rw [Hnum.out];simp,Hz.out⟩
   case round=>
    clear Hr Hrl Hbk Hnum Hz hbel;obtain⟨t,cy,r,ht,rfl,rfl,hcy,hr,hrl,hbk,hbel,hnum,hz⟩:=hrel;have Hr:Hid (r.length=n+m):=hr;have Hrl:=ZZ hrl;have Hbk:Hid (BkI wr w.heap.size r):=hbk;have Hnum:=ZZ hnum;have Hz:=ZZ hz;clear hr hrl hnum hbk hz;rw [B30_eq] at hcy
    by_cases hltm:t<m
    ·obtain⟨bb,ob,rfl,hcb'⟩:=hB.i (by rw [Hm.out];omega)
     have ea:=ap hbel HEA.out;have eb:=ap hbel (hcb' t (by rw [Hm.out];omega));have hyl:=getD_lt Hlb.out (by rw [B30_eq];omega) t;have Htt:Hid (num B30 (lb.take (t+1))=num B30 (lb.take t)+B30 ^ t*lb.getD t 0):=num_take_le _ _ _;clear hcb' hB;rw [B30_eq] at hyl;generalize lb.getD t 0=y at *;have hci:=Hbk.out.cell (k+t) (by rw [Hr.out];omega);have hfi:=Hbk.out.frozen (k+t);have hol:=getD_lt Hrl.out (by rw [B30_eq];omega) (k+t);have hns:=fun s=>num_set B30 r (k+t) s (by rw [Hr.out];omega);have Hns:=ZZ hns;clear hns;rw [B30_eq] at hol;generalize r.getD (k+t) 0=o at *;obtain⟨p,hp⟩:∃p:Nat,p=x*y:=⟨_,rfl⟩;obtain⟨s1,hs1⟩:∃s1:Nat,s1=cy+p:=⟨_,rfl⟩;obtain⟨s,hs2⟩:∃s:Nat,s=s1+o:=⟨_,rfl⟩;obtain⟨d,c',hd,hdc,hd1,hc1'⟩:=split30 s;obtain⟨hcb,hsb⟩:=times_bound hxl hyl hol hcy (by rw [hs2,hs1,hp]) hdc
     have hw1:IntKind.i64.wrap ((x:Int)*(y:Int))=(p:Int):=by
      rw [show (x:Int)*(y:Int)=(p:Int) by rw [hp];push_cast;rfl];exact IntWalk.i64_in _ (by omega)
     have hw2:IntKind.i64.wrap ((cy:Int)+(p:Int))=(s1:Int):=(IntWalk.i64_in _ (by omega)).trans (by omega);have hw3:IntKind.i64.wrap ((s1:Int)+(o:Int))=(s:Int):=(IntWalk.i64_in _ (by omega)).trans (by omega);have hrem:(s:Int) % 1073741824=(d:Int):=by omega
     have hquo:(s:Int) / 1073741824=(c':Int):=by omega
     have hdb:d<1073741824:=by omega
     have hw4:IntKind.i64.wrap ((k:Int)+(t:Int))=((k+t:Nat):Int):=(IntWalk.i64_in _ (by omega)).trans (by omega);have Hd:=ZZ hd;have Hc':=ZZ (show c'<B30 by rw [B30_eq];exact hcb);have Hstep:=ZZ (show d+B30*c'=x*y+o+cy by omega);have HB:=ZZ hbel;have Hset:=ZZ (fun q:Nat=>(Hbk.out.drewN q).set_ (k+t) d);clear hd1 hc1' hdc hd hs2 hs1 hp hbel;go_wp2_with fail
     go_quiet (fail)
     go_wp2_with fail
     go_roundw
     case rel=>
      refine⟨t+1,c',r.set (k+t) d,by omega,by first|rfl|go_num,rfl,Hc'.out,by rw [List.length_set,Hr.out],set_lt Hrl.out Hd.out _,Hset.out _,(al HB.out (ay _ _)).setCell (Nat.le_refl _) _,?_,fun j hj=>by rw [getD_set_ne (by omega)];exact Hz.out j hj⟩;have h5:=Hns.out d;rw [Nat.pow_add] at h5;rw [Htt.out,Nat.pow_succ,←Nat.mul_assoc];exact mul_step Hnum.out Hstep.out h5
     case measure=>simp [intOf];omega
    ·have htm:t=m:=by omega
     subst htm;have hci:=Hbk.out.cell (k+t) (by rw [Hr.out];omega);have hfi:=Hbk.out.frozen (k+t);have Hset:=ZZ (Hbk.out.set_ (k+t) cy);have Hcy:=ZZ (show cy<B30 by rw [B30_eq];exact hcy);clear hcy;go_wp2_with fail
     go_roundw
     case rel=>
      refine⟨k+1,r.set (k+t) cy,by omega,by first|rfl|go_num,by rw [List.length_set,Hr.out],set_lt Hrl.out Hcy.out _,Hset.out,hbel.setCell (Nat.le_refl _) _,?_,fun j hj=>by rw [getD_set_ne (by omega)];exact Hz.out j (by omega)⟩;have h5:=num_set B30 r (k+t) cy (by rw [Hr.out];omega);rw [Hz.out (k+t) (Nat.le_refl _),Nat.mul_zero,Nat.add_zero,Nat.pow_add] at h5;rw [h5,Hnum.out,num_take_all B30 lb (by rw [Hm.out];omega),Htk.out,Nat.add_mul]
     case measure=>simp [intOf];omega
  ·have hkn:k=n:=by omega
   subst hkn;have Hc:=Hbk.out.cl;have HC:=ZZ Hc;clear Hc;go_wp2_with fail;refine(rcut_c _ r _ _ HC.out (k+m) Hr.out (by omega) (by omega)).mono ?_;rintro e w2 ⟨rfl,rfl⟩;go_wp2_with fail;go_ret;refine⟨_,rfl,?_,hbel,fun b hb=>Nat.le_of_eq (Option.some.inj hb)⟩
   have:=rcut_w Hrl.out HC.out (c:=k+m) (by rw [Hr.out];omega)
   rw [Hnum.out,num_take_all B30 la (by rw [Hn.out];omega)] at this;exact this
theorem times_f (va vb:Value) (m n:Nat) (w:World) (ha:Wr w va m) (hb:Wr w vb n) (sa:Sr m) (sb:Sr n):Calls Tryz.prog 136 #[va,vb] w fun e w'=>∃v,e=.returned v∧Wr w' v (m*n)∧Ext w w'∧Fr w.heap.size v:=by
 obtain⟨A,ca,rfl,hca,hA⟩:=ha;obtain⟨B,cb,rfl,hcb,hB⟩:=hb;have h:=times_l A B (dr m) (dr n) ca cb w _ _ rfl rfl hA hB (dr_lt m) (dr_lt n) (by unfold Sr at sa sb;omega)
 rwa [num_dr,num_dr] at h
theorem times_r (va vb:Value) (m n:Nat) (w:World) (ha:Wr w va m) (hb:Wr w vb n) (sa:Sr m) (sb:Sr n):Calls Tryz.prog 136 #[va,vb] w fun e w'=>∃v,e=.returned v∧Wr w' v (m*n)∧Ext w w':=
 (times_f va vb m n w ha hb sa sb).mono fun e w' ⟨v,h1,h2,h3,_⟩=>⟨v,h1,h2,h3⟩
end Go.Proofs.YtjamgccgoapbeaaGreatDoor
set_option linter.unusedVariables false
set_option maxRecDepth 100000
set_option maxHeartbeats 64000000
namespace Go.Proofs.YtjamgccgoapbeaaGreatDoor
open Go.RowKit
theorem B30_pow (k:Nat):B30 ^ k=2 ^ (30*k):=by rw [B30_eq,Nat.pow_mul]
theorem dr_top {n:Nat} (h0:0<n):(dr n).getD ((dr n).length - 1) 0<B30∧0<(dr n).getD ((dr n).length - 1) 0∧0<(dr n).length∧n=num B30 ((dr n).take ((dr n).length - 1))+B30 ^ ((dr n).length - 1)*(dr n).getD ((dr n).length - 1) 0∧num B30 ((dr n).take ((dr n).length - 1))<B30 ^ ((dr n).length - 1):=by
 have h1:=dr_norm n;have h2:dr n≠[]:=dig_ne_nil B30_two h0;have h3:0<(dr n).length:=List.length_pos_iff.2 h2;have e:=num_dr n;generalize dr n=l at *;have h4:=num_take_succ B30 l (l.length - 1) (by omega);rw [show l.length - 1+1=l.length by omega,List.take_length,e] at h4;refine⟨getD_lt h1.lt (by rw [B30_eq];omega) _,?_,h3,h4,?_⟩
 ·rcases Nat.eq_zero_or_pos (l.getD (l.length - 1) 0) with h5|h5
  ·exfalso
   apply h1.last
   rw [List.getLast?_eq_getElem?];rw [List.getD_eq_getElem?_getD] at h5;rw [List.getElem?_eq_getElem (by omega)] at h5 ⊢
   simpa using h5
  ·exact h5
 ·have:=num_lt B30 (l.take (l.length - 1)) (fun d hd=>h1.lt d (List.mem_of_mem_take hd))
  rwa [List.length_take,Nat.min_eq_left (by omega)] at this
theorem bl_top {n lo d q j:Nat} (hn:n=lo+B30 ^ q*d) (hlo:lo<B30 ^ q) (h1:d<2 ^ j) (h2:j=0∨2 ^ (j - 1)≤d) (hd:0<d):bl n=30*q+j:=by
 have hj:0<j:=by
  rcases Nat.eq_zero_or_pos j with h|h
  ·subst h;simp at h1;omega
  ·exact h
 have h2':2 ^ (j - 1)≤d:=by
  rcases h2 with h|h
  ·omega
  ·exact h
 apply bl_unique
 ·rw [Nat.pow_add,←B30_pow,hn]
  have:B30 ^ q*(d+1)≤B30 ^ q*2 ^ j:=Nat.mul_le_mul_left _ h1
  rw [Nat.mul_add,Nat.mul_one] at this;omega
 ·right
  rw [show 30*q+j - 1=30*q+(j - 1) by omega,Nat.pow_add,←B30_pow,hn]
  have:B30 ^ q*2 ^ (j - 1)≤B30 ^ q*d:=Nat.mul_le_mul_left _ h2'
  omega
theorem half_pow (d j:Nat):d / 2 ^ j / 2=d / 2 ^ (j+1):=by rw [Nat.div_div_eq_div_mul,Nat.pow_succ]
theorem length_r (va:Value) (n:Nat) (w:World) (ha:Wr w va n) (sa:Sr n):Calls Tryz.prog 186 #[va] w fun e w'=>e=.returned (.int .i64 (bl n:Nat))∧w=w':=by
 obtain⟨A,ca,rfl,hca,hA⟩:=ha;unfold Sr at sa
 rcases Nat.eq_zero_or_pos n with h0|h0
 ·subst h0
  rw [dr_zero]
  go_enter Tryz.func186,Tryz.ntmps186
  go_wp2_with fail;go_ret
  exact⟨rfl,rfl⟩
 ·obtain⟨t1,t2,t3,t4,t5⟩:=dr_top h0
  obtain⟨ba,oa,rfl,hc⟩:=hA.i t3;have ea:=hc ((dr n).length - 1) (by omega);clear hc hA;obtain⟨q,hq⟩:∃q,(dr n).length=q+1:=⟨(dr n).length - 1,by omega⟩;have hq1:(dr n).length - 1=q:=by omega
  rw [hq1] at t1 t2 t4 t5 ea;rw [hq] at sa hca ⊢;generalize (dr n).getD q 0=d at *;generalize num B30 ((dr n).take q)=lo at *;have HN:=ZZ t4;have HLO:=ZZ t5;have HD0:=ZZ t2;have HD:=ZZ t1;have hdb:d<1073741824:=by rw [←B30_eq];exact t1
  clear t1 t2 t3 t4 t5 hq hq1;have hne:(((q+1:Nat):Int) == 0)=false:=by simp;omega
  have hw0:IntKind.i64.wrap (((q+1:Nat):Int) - 1)=(q:Int):=(IntWalk.i64_in _ (by omega)).trans (by omega);have hw1:IntKind.i64.wrap (30*(q:Int))=((30*q:Nat):Int):=(IntWalk.i64_in _ (by omega)).trans (by omega)
  go_enter Tryz.func186,Tryz.ntmps186
  go_wp2_with fail
  go_loop [3,4] (fun a b=>∃j N t:Nat,j≤30∧N=30*q+j∧t=d / 2 ^ j∧a=.int .i64 (N:Int)∧b=.int .i64 (t:Int)∧(j=0∨2 ^ (j - 1)≤d)) (fun _ b=>(intOf b).toNat)
  case atStart=>exact⟨0,30*q,d,by omega,rfl,by simp,by first|rfl|simp,rfl,.inl rfl⟩
  case round=>
   obtain⟨j,N,t,hj,hN,ht,rfl,rfl,hjd⟩:=hrel;have hNb:N≤9223372036854775806:=by omega
   have HNN:=ZZ hN;clear hN hw0 hw1;have HT:=ZZ ht;have HJ:=ZZ hjd;have htb:t≤d:=by rw [ht];exact Nat.div_le_self _ _
   clear ht hjd
   by_cases h:t=0
   ·subst h
    go_wp2_with fail;go_ret
    refine⟨?_,rfl⟩
    rw [bl_top HN.out HLO.out (by
     have:=HT.out
     rcases Nat.lt_or_ge d (2 ^ j) with h|h
     ·exact h
     ·have:=Nat.div_pos h (Nat.pow_pos (show 0<2 by omega));omega) HJ.out HD0.out,←HNN.out]
    rfl
   ·have hp:decide ((0:Int)<(t:Int))=true:=by simp;omega
    obtain⟨t2,ht2⟩:∃t2,t2=t / 2:=⟨_,rfl⟩;have hq2:(t:Int) / 2=(t2:Int):=by omega
    have ht2b:t2≤1073741824:=by omega
    have HT2:=ZZ ht2;have hlt2:t2<t:=by omega
    have H2:=ZZ (show 2 ^ j≤d by
     rcases Nat.lt_or_ge d (2 ^ j) with h'|h'
     ·exact absurd (HT.out.trans (Nat.div_eq_of_lt h')) h
     ·exact h')
    have hj30:j<30:=by
     rcases Nat.lt_or_ge j 30 with h'|h'
     ·exact h'
     ·have:2 ^ 30≤2 ^ j:=Nat.pow_le_pow_right (by omega) h'
      have:=H2.out
      omega
    have hw2:IntKind.i64.wrap ((N:Int)+1)=((N+1:Nat):Int):=(IntWalk.i64_in _ (by omega)).trans (by omega);have hw3:IntKind.i64.wrap (t2:Int)=(t2:Int):=IntWalk.i64_in _ (by omega);clear ht2;go_wp2_with fail
    go_round
    case rel=>exact⟨j+1,N+1,t2,by omega,by have:=HNN.out;omega,by rw [←half_pow,←HT.out];exact HT2.out,by first|rfl|(congr 1;omega),rfl,.inr H2.out⟩
    case measure=>simp [intOf];omega
theorem short_r (va:Value) (n:Nat) (w:World) (ha:Wr w va n) (hl:(dr n).length≤2):Calls Tryz.prog 171 #[va] w fun e w'=>e=.returned (.int .i64 n)∧w=w':=by
 obtain⟨A,ca,rfl,hca,hA⟩:=ha;have en:=num_dr n;have nl:=dr_lt n;generalize dr n=l at *;have En:=ZZ en;have Nl:=ZZ nl;clear en nl;have hw0:IntKind.i64.wrap ((l.length:Int) - 1)=(l.length:Int) - 1:=IntWalk.i64_in _ (by omega)
 go_enter Tryz.func171,Tryz.ntmps171
 go_wp2_with fail
 go_loop [3,4] (fun s i=>∃k:Nat,k≤l.length∧i=.int .i64 ((k:Int) - 1)∧s=.int .i64 ((num B30 (l.drop k):Nat):Int)) (fun _ i=>(intOf i+1).toNat)
 case atStart=>exact⟨l.length,Nat.le_refl _,rfl,by rw [List.drop_of_length_le (Nat.le_refl _)];rfl⟩
 case round=>
  clear hw0;obtain⟨k,hk,rfl,rfl⟩:=hrel
  rcases k with _|k
  ·go_wp2_with fail
   go_ret;refine⟨?_,rfl⟩
   have:=En.out
   show Ending.returned (Value.int .i64 ((num B30 l:Nat):Int))=_
   rw [this]
  ·obtain⟨b,o,rfl,hc⟩:=hA.i (by omega)
   have ea:=hc k (by omega);have hx:=getD_lt Nl.out (by rw [B30_eq];omega) k
   have hdk:num B30 (l.drop k)=l.getD k 0+B30*num B30 (l.drop (k+1)):=by
    rw [List.drop_eq_getElem_cons (by omega),num_cons]
    simp [List.getD_eq_getElem?_getD,show k<l.length by omega]
   have HK:=ZZ hdk
   have hyb:num B30 (l.drop (k+1))<1073741824:=by
    have h1:=num_lt B30 (l.drop (k+1)) (fun d hd=>Nl.out d (List.mem_of_mem_drop hd));have h2:(l.drop (k+1)).length≤1:=by simp;omega
    rcases(show (l.drop (k+1)).length=0∨(l.drop (k+1)).length=1 by omega) with h3|h3
    ·rw [h3] at h1;simp at h1;omega
    ·rw [h3,Nat.pow_one] at h1;rw [←B30_eq];exact h1
   rw [B30_eq] at hx;clear hc hA hdk;generalize l.getD k 0=x at *;generalize num B30 (l.drop (k+1))=y at *;obtain⟨s,hs⟩:∃s:Nat,s=y*1073741824+x:=⟨_,rfl⟩;have hw1:IntKind.i64.wrap ((y:Int)*1073741824)=((y*1073741824:Nat):Int):=(IntWalk.i64_in _ (by omega)).trans (by omega);have hw2:IntKind.i64.wrap ((y:Int)*1073741824+(x:Int))=(s:Int):=(IntWalk.i64_in _ (by omega)).trans (by omega);have hw3:IntKind.i64.wrap (((k+1:Nat):Int) - 1 - 1)=(k:Int) - 1:=(IntWalk.i64_in _ (by omega)).trans (by omega);have Hs:=ZZ (show s=num B30 (l.drop k) by rw [HK.out,B30_eq];omega);clear hs;go_wp2_with fail
   go_round
   case rel=>exact⟨k,by omega,by first|rfl|simp,by rw [←Hs.out]⟩
   case measure=>simp [intOf]
theorem zeros_end {n i j t x R:Nat} (hn:n=B30 ^ i*(x+B30*R)) (hx:x=2 ^ j*t) (hxb:x<B30) (h0:0<t) (ht:t % 2=1):∃u,n=2 ^ (30*i+j)*u∧u % 2=1:=by
 have hj:j<30:=by
  rcases Nat.lt_or_ge j 30 with h|h
  ·exact h
  ·have h1:2 ^ 30≤2 ^ j:=Nat.pow_le_pow_right (by omega) h
   have h2:2 ^ j*1≤2 ^ j*t:=Nat.mul_le_mul_left _ h0;rw [B30_eq] at hxb;omega
 refine⟨t+2 ^ (30 - j)*R,?_,?_⟩
 ·rw [hn,Nat.pow_add,←B30_pow,Nat.mul_assoc,hx]
  congr 1
  rw [Nat.mul_add,←Nat.mul_assoc,←Nat.pow_add,show j+(30 - j)=30 by omega]
  rfl
 ·rw [show 30 - j=(29 - j)+1 by omega,Nat.pow_succ,Nat.mul_assoc,Nat.mul_comm,Nat.mul_assoc]
  omega
theorem num_drop_cons {B:Nat} {l:List Nat} {k:Nat} (hk:k<l.length):num B (l.drop k)=l.getD k 0+B*num B (l.drop (k+1)):=by
 rw [List.drop_eq_getElem_cons hk,num_cons]
 simp [List.getD_eq_getElem?_getD,hk]
theorem zeros_r (va:Value) (n:Nat) (h0:0<n) (w:World) (ha:Wr w va n) (sa:Sr n):Calls Tryz.prog 168 #[va] w fun e w'=>(∃z u:Nat,e=.returned (.int .i64 z)∧n=2 ^ z*u∧u % 2=1)∧w=w':=by
 obtain⟨A,ca,rfl,hca,hA⟩:=ha;unfold Sr at sa;have en:=num_dr n;have nl:=dr_lt n;generalize dr n=l at *
 have hl0:0<l.length:=by
  rcases Nat.eq_zero_or_pos l.length with h|h
  ·rw [List.length_eq_zero_iff.1 h] at en;simp at en;omega
  ·exact h
 obtain⟨b,o,rfl,hc⟩:=hA.i hl0;have En:=ZZ en;have Nl:=ZZ nl;have HC:=ZZ hc;have H0:=ZZ h0;clear en nl hA hc h0
 go_enter Tryz.func168,Tryz.ntmps168
 go_wp2_with fail
 go_loop [3] (fun v=>∃i N:Nat,i<l.length∧N=30*i∧v=.int .i64 (N:Int)∧num B30 (l.take i)=0) (fun v=>30*l.length - (intOf v).toNat)
 case atStart=>exact⟨0,0,hl0,rfl,rfl,by simp⟩
 case round=>
  obtain⟨i,N,hi,hN,rfl,hz⟩:=hrel;have ea:=HC.out i hi;have hxb:=getD_lt Nl.out (by rw [B30_eq];omega) i;have HX:=ZZ hxb;have HT:=ZZ (num_take_succ B30 l i hi);have HZ:=ZZ hz;have HND:=ZZ (num_drop B30 l i (by omega));have HNC:=ZZ (num_drop_cons (B:=B30) hi);have hq:(N:Int) / 30=(i:Int):=by omega
  have hwq:IntKind.i64.wrap (i:Int)=(i:Int):=IntWalk.i64_in _ (by omega);have hw2:IntKind.i64.wrap ((N:Int)+30)=((N+30:Nat):Int):=(IntWalk.i64_in _ (by omega)).trans (by omega);have hNb:N≤9223372036854775:=by omega
  have HN:=ZZ hN;rw [B30_eq] at hxb;clear hz hl0;generalize l.getD i 0=x at *
  by_cases hx:x=0
  ·have ht:((x:Int) == 0)=true:=by simp;omega
   have hi1:i+1<l.length:=by
    rcases Nat.lt_or_ge (i+1) l.length with h|h
    ·exact h
    ·exfalso
     have h1:=HT.out;rw [num_take_all B30 l h,En.out,HZ.out,hx] at h1
     have:=H0.out
     omega
   have HT':=ZZ (show num B30 (l.take (i+1))=0 by rw [HT.out,HZ.out,hx];rfl);clear hx hN;go_wp2_with fail
   go_round
   case rel=>exact⟨i+1,N+30,hi1,by have:=HN.out;omega,by first|rfl|(congr 1;omega),HT'.out⟩
   case measure=>have:=HN.out;simp [intOf];omega
  ·have ht:((x:Int) == 0)=false:=by simp;omega
   have HX0:=ZZ hx;clear hx hN;go_wp2_with fail
   go_loop [3,4] (fun a c=>∃j t N2:Nat,N2=N+j∧a=.int .i64 (N2:Int)∧c=.int .i64 (t:Int)∧x=2 ^ j*t∧0<t∧j≤30) (fun _ c=>(intOf c).toNat)
   case atStart=>exact⟨0,x,N,rfl,rfl,rfl,by simp,by have:=HX0.out;omega,by omega⟩
   case round=>
    obtain⟨j,t,N2,hN2,rfl,rfl,hxt,ht0,hj⟩:=hrel;have HXT:=ZZ hxt;have HN2:=ZZ hN2
    have htb:t≤1073741824:=by
     have:1*t≤2 ^ j*t:=Nat.mul_le_mul_right _ (Nat.pow_pos (by omega))
     omega
    have hN2b:N2≤9223372036854776:=by omega
    clear hxt hN2
    rcases Nat.mod_two_eq_zero_or_one t with he|he
    ·obtain⟨t2,ht2⟩:∃t2,t=2*t2:=⟨t / 2,by omega⟩
     subst ht2;have hrem:(((2*t2:Nat):Int) % 2 == 0)=true:=by simp
     have hquo:((2*t2:Nat):Int) / 2=(t2:Int):=by omega
     have hw3:IntKind.i64.wrap (t2:Int)=(t2:Int):=IntWalk.i64_in _ (by omega);have hw4:IntKind.i64.wrap ((N2:Int)+1)=((N2+1:Nat):Int):=(IntWalk.i64_in _ (by omega)).trans (by omega);have HXT':=ZZ (show x=2 ^ (j+1)*t2 by rw [HXT.out,Nat.pow_succ,Nat.mul_assoc])
     have hj1:j+1≤30:=by
      rcases Nat.lt_or_ge j 30 with h'|h'
      ·exact h'
      ·have h1:2 ^ 30≤2 ^ j:=Nat.pow_le_pow_right (by omega) h'
       have h2:2 ^ j*1≤2 ^ j*(2*t2):=Nat.mul_le_mul_left _ ht0
       have:=HXT.out
       omega
     clear he;go_wp2_with fail
     go_round
     case rel=>exact⟨j+1,t2,N2+1,by have:=HN2.out;omega,by first|rfl|(congr 1;omega),by first|rfl|(congr 1;omega),HXT'.out,by omega,hj1⟩
     case measure=>simp [intOf];omega
    ·have hrem:((t:Int) % 2 == 0)=false:=by rw [beq_eq_false_iff_ne];omega
     have HE:=ZZ he;clear he;go_wp2_with fail;go_ret;have h1:=HND.out;rw [HZ.out,Nat.zero_add,HNC.out,En.out] at h1;obtain⟨u,hu1,hu2⟩:=zeros_end h1 HXT.out HX.out ht0 HE.out;have hu3:n=2 ^ N2*u:=by rw [HN2.out,HN.out];exact hu1
     first
      | exact⟨⟨N2,u,rfl,hu3,hu2⟩,rfl⟩
      | exact⟨⟨N2,rfl,u,hu3,hu2⟩,rfl⟩
end Go.Proofs.YtjamgccgoapbeaaGreatDoor
