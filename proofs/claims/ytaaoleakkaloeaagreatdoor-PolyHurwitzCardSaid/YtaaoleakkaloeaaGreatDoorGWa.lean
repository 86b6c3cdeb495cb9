/- The program's natural numbers: comparing, is1. -/
import Derived.Test.YtaaoleakkaloeaaGreatDoorGNat
import Derived.Lib.Hide
set_option linter.unusedVariables false
set_option maxRecDepth 100000
set_option maxHeartbeats 64000000
namespace Go.Proofs.YtaaoleakkaloeaaGreatDoor
open Go.RowKit
theorem cmpR_intro {a b:Nat} {c:Int} (h1:c<0↔a<b) (h2:0<c↔b<a):CmpR a b (.returned (.int .i64 c)):=⟨c,rfl,h1,h2⟩
theorem drewN2 (w:World) (a b:Nat):(w.drewN a).drewN b=w.drewN (a+b):=World.drewN_drewN _ _ _
theorem drewN3 (w:World) (a b c:Nat):((w.drewN a).drewN b).drewN c=w.drewN (a+b+c):=by rw [drewN2,drewN2,Nat.add_assoc]
theorem cmp_c (va vb:Value) (m n:Nat) (w:World) (ha:Wd w va m) (hb:Wd w vb n) (sa:Sm m) (sb:Sm n):Calls Tryz.prog 48 #[va,vb] w fun e w'=>CmpR m n e∧∃k,w'=w.drewN k:=by
 obtain⟨A,ca,rfl,hca,hA⟩:=ha;obtain⟨B,cb,rfl,hcb,hB⟩:=hb;have em:=num_dg m;have en:=num_dg n;have nm:=dg_norm m;have nn:=dg_norm n;unfold Sm at sa sb;generalize dg m=xs at *;generalize dg n=ys at *
 by_cases hl:xs.length=ys.length
 ·have Hl:Hid (xs.length=ys.length):=hl
  have hne:(((xs.length:Nat):Int) != (ys.length:Int))=false:=by simp [hl]
  have hle:xs.length≤ys.length:=by omega
  have hge:ys.length≤xs.length:=by omega
  have Em:Hid (num B64 xs=m):=em;have En:Hid (num B64 ys=n):=en;clear hl em en
  go_enter Tryz.func48,Tryz.ntmps48
  go_wp2
  go_loopw [5] (fun i wr=>∃k q:Nat,k≤xs.length∧i=.int .i64 ((k:Int) - 1)∧wr=w.drewN q∧xs.drop k=ys.drop k) (fun i _=>(intOf i+1).toNat)
  case atStart=>exact⟨xs.length,0,Nat.le_refl _,rfl,rfl,by rw [List.drop_of_length_le (Nat.le_refl _),List.drop_of_length_le (by omega)]⟩
  case round=>
   obtain⟨k,q,hk,rfl,rfl,hdr⟩:=hrel;have Hdr:Hid (xs.drop k=ys.drop k):=hdr;clear hdr
   by_cases h0:k=0
   ·subst h0
    go_wp2
    go_ret;refine⟨cmpR_intro ?_ ?_,_,rfl⟩
    all_goals
     have e:xs=ys:=by simpa using Hdr.out
     have e1:m=n:=by rw [←Em.out,←En.out,e]
     omega
   ·obtain⟨k,rfl⟩:∃j,k=j+1:=⟨k - 1,by omega⟩
    obtain⟨ba,oa,rfl,hca'⟩:=hA.u (by omega);obtain⟨bb,ob,rfl,hcb'⟩:=hB.u (by omega);have ea:=hca' k (by omega);have eb:=hcb' k (by omega);clear h0 hca' hcb' hA hB;have h1:=fun h=>num_lt_of_top nm.lt Hl.out k (by omega) Hdr.out h;have h2:=fun h=>num_lt_of_top nn.lt Hl.out.symm k (by omega) Hdr.out.symm h;have H1:Hid (xs.getD k 0<ys.getD k 0→m<n):=fun h=>by have:=h1 h;rw [Em.out,En.out] at this;exact this
    have H2:Hid (ys.getD k 0<xs.getD k 0→n<m):=fun h=>by have:=h2 h;rw [Em.out,En.out] at this;exact this
    have H3:Hid (xs.getD k 0=ys.getD k 0→xs.drop k=ys.drop k):=fun h=>drop_eq_of (by omega) (by omega) Hdr.out h;clear h1 h2;generalize xs.getD k 0=x at *;generalize ys.getD k 0=y at *
    rcases Nat.lt_trichotomy x y with hxy|hxy|hxy
    ·have t1:((x:Int) != (y:Int))=true:=by simp;omega
     have t2:decide ((x:Int)<(y:Int))=true:=by simp;omega
     go_wp2_with fail
     go_quiet (fail)
     go_wp2_with fail
     go_quiet (fail)
     go_wp2_with fail;go_ret
     have:=H1.out hxy
     exact⟨cmpR_intro (by omega) (by omega),_,drewN3 _ _ _ _⟩
    ·subst hxy
     have t1:((x:Int) != (x:Int))=false:=by simp
     go_wp2_with fail
     go_quiet (fail)
     go_wp2_with fail
     go_roundw
     case rel=>exact⟨k,_,by omega,by simp,rfl,H3.out (by first|rfl|trivial)⟩
     case measure=>simp [intOf]
    ·have t1:((x:Int) != (y:Int))=true:=by simp;omega
     have t2:decide ((x:Int)<(y:Int))=false:=by simp;omega
     go_wp2_with fail
     go_quiet (fail)
     go_wp2_with fail
     go_quiet (fail)
     go_wp2_with fail;go_ret
     have:=H2.out hxy
     exact⟨cmpR_intro (by omega) (by omega),_,drewN3 _ _ _ _⟩
 ·have hne:(((xs.length:Nat):Int) != (ys.length:Int))=true:=by simp;omega
  have hlt:xs.length<ys.length→m<n:=fun h=>by rw [←em,←en];exact num_lt_of_length B64_two nm.lt nn h
  have hgt:ys.length<xs.length→n<m:=fun h=>by rw [←em,←en];exact num_lt_of_length B64_two nn.lt nm h
  have Hlt:Hid (xs.length<ys.length→m<n):=hlt;have Hgt:Hid (ys.length<xs.length→n<m):=hgt;clear hlt hgt em en
  go_enter Tryz.func48,Tryz.ntmps48
  go_wp2
  go_ret;have h1:=Hlt.out
  have h2:=Hgt.out;exact⟨cmpR_intro (by omega) (by omega),0,rfl⟩
def slen:Value→Nat | .slice _ k _=>k|_=>0
theorem dg_one:dg 1=[1]:=by
 unfold dg;rw [dig_pos B64_two (by omega),B64_eq,show 1 / 18446744073709551616=0 from rfl,dig_zero]
theorem is1_iff (n:Nat):n=1↔(dg n).length=1∧(dg n).getD 0 0=1:=by
 constructor
 ·rintro rfl;rw [dg_one];simp
 ·rintro⟨h1,h2⟩
  have e:=num_dg n
  match h:dg n,h1,h2 with
  | [d],_,h2=>rw [h] at e;simp at h2 e;omega
theorem is1_c (va:Value) (n:Nat) (b:Bool) (hb:decide (n=1)=b) (w:World) (ha:Wd w va n):Calls Tryz.prog 68 #[va] w fun e w'=>e=.returned (.bool b)∧w=w':=by
 obtain⟨A,ca,rfl,hca,hA⟩:=ha;have hi:=is1_iff n
 by_cases hl:(dg n).length=1
 ·obtain⟨ba,oa,rfl,hc⟩:=hA.u (by omega)
  have h0:w.cell? ⟨ba,oa,none⟩=some (.int .u64 (((dg n).getD 0 0:Nat):Int)):=by simpa using hc 0 (by omega)
  clear hc hA
  have Hi:Hid (decide ((dg n).getD 0 0=1)=b):=by
   rw [←hb];show decide _=decide _;simp only [hi,hl,true_and]
  clear hi;generalize (dg n).getD 0 0=x at *;have hlt:((((dg n).length:Nat):Int) == 1)=true:=by simp;omega
  have hp:(0:Int)<((dg n).length:Nat):=by omega
  have hp':0<(dg n).length:=by omega
  generalize (dg n).length=k at *
  by_cases hx:x=1
  ·have ht:((x:Int) == 1)=true:=by simp;omega
   have Hb:Hid (b=true):=by have:=Hi.out;rw [←this];exact decide_eq_true hx
   clear hx hb hl
   go_enter Tryz.func68,Tryz.ntmps68
   go_wp2
   go_ret;rw [Hb.out]
   exact⟨rfl,rfl⟩
  ·have ht:((x:Int) == 1)=false:=by simp;omega
   have Hb:Hid (b=false):=by have:=Hi.out;rw [←this];exact decide_eq_false hx
   clear hx hb hl
   go_enter Tryz.func68,Tryz.ntmps68
   go_wp2
   go_ret;rw [Hb.out]
   exact⟨rfl,rfl⟩
 ·have hlt:((((dg n).length:Nat):Int) == 1)=false:=by simp;omega
  have Hb:Hid (b=false):=by rw [←hb];exact decide_eq_false (fun h=>hl (hi.1 h).1)
  clear hl hb hi;generalize (dg n).length=k at *
  go_enter Tryz.func68,Tryz.ntmps68
  go_wp2
  go_ret;rw [Hb.out]
  exact⟨rfl,rfl⟩
theorem cut_c (A:Option Addr) (l:List Nat) (c:Nat) (w:World) (hA:Cl w A (l.map u64)) (n:Nat) (hn:l.length=n) (hc:n≤c) (hs:n≤35184372088832):Calls Tryz.prog 91 #[.slice A n c] w fun e w'=>e=.returned (.slice A (cut l).length c)∧w=w':=by
 subst hn
 go_enter Tryz.func91,Tryz.ntmps91
 go_wp2
 go_loop [0] (fun v=>∃k:Nat,k≤l.length∧v=.slice A k c∧cut (l.take k)=cut l) (fun v=>slen v)
 case atStart=>exact⟨l.length,Nat.le_refl _,rfl,by rw [List.take_length]⟩
 case round=>
  obtain⟨k,hk,rfl,hcut⟩:=hrel;have Hcut:Hid (cut (l.take k)=cut l):=hcut;clear hcut
  rcases k with _|k
  ·go_wp2
   go_ret;refine⟨?_,rfl⟩
   have:=Hcut.out
   simp [cut] at this
   show Ending.returned (Value.slice A 0 c)=_
   rw [this];rfl
  ·obtain⟨b,o,rfl,hcell⟩:=hA.u (by omega)
   have h0:=hcell k (by omega);have hts:=take_snoc_getD l k (by omega);have Hz:Hid (l.getD k 0=0→cut (l.take k)=cut l):=fun h=>by rw [←Hcut.out,hts,h,cut_snoc_zero]
   have Hn:Hid (l.getD k 0≠0→cut l=l.take (k+1)):=fun h=>by
    rw [←Hcut.out];exact cut_of_last (by rw [hts];simpa using h)
   clear hts hcell hA;generalize l.getD k 0=x at *
   by_cases hx:x=0
   ·have ht:((x:Int) == 0)=true:=by simp;omega
    clear hx
    go_wp2
    go_round
    case rel=>exact⟨k,by omega,rfl,Hz.out (by simpa using ht)⟩
    case measure=>simp [slen]
   ·have ht:((x:Int) == 0)=false:=by simp;omega
    go_wp2
    go_ret;refine⟨?_,rfl⟩
    rw [Hn.out hx,List.length_take,Nat.min_eq_left (by omega)]
    rfl
theorem cut_w {A:Option Addr} {l:List Nat} {c:Nat} {w:World} (hl:∀d ∈ l,d<B64) (hA:Cl w A (l.map u64)) (hc:l.length≤c):Wd w (.slice A (cut l).length c) (num B64 l):=by
 have e:=cut_dig B64_two hl
 have hle:(cut l).length≤l.length:=by
  clear e hA hc hl
  induction l with
  | nil=>simp [cut]
  | cons d l ih=>unfold cut;split <;> simp;omega
 have hpre:∃t,l=cut l ++ t:=by
  clear e hA hc hl hle
  induction l with
  | nil=>exact⟨[],by simp [cut]⟩
  | cons d l ih=>
   obtain⟨t,ht⟩:=ih;unfold cut
   split
   ·exact⟨d :: l,rfl⟩
   ·exact⟨t,by rw [List.cons_append,←ht]⟩
 refine⟨A,c,by unfold dg;rw [←e],by unfold dg;rw [←e];omega,?_⟩;unfold dg;rw [←e]
 rcases hA with h|⟨b,o,h1,h2⟩
 ·left
  have:l=[]:=by simpa using h
  rw [this];rfl
 ·right
  refine⟨b,o,h1,fun j hj=>?_⟩;rw [h2 j (by simp at hj ⊢;omega)];obtain⟨t,ht⟩:=hpre
  conv=>lhs;rw [ht]
  simp at hj
  simp [List.getD_eq_getElem?_getD,List.getElem?_append,hj]
theorem cl_block {w:World} {g o:Nat} {cs:Array Value} {t:TypeId} {fr:Nat × Nat} {xs:List Value} (hg:w.heap[g]?=some (.cells cs t fr)) (h:∀j,j<xs.length→cs[o+j]?=some (xs.getD j undef)):Cl w (some ⟨g,o,none⟩) xs:=
 .inr ⟨g,o,rfl,fun j hj=>by rw [cell_of_row w g (o+j) cs t fr hg];exact h j hj⟩
theorem cl_new (w:World) (xs:List Value) (t:TypeId):Cl (w.alloc (.cells xs.toArray t)) (some ⟨w.heap.size,0,none⟩) xs:=
 cl_block (heap_alloc_new w _) (fun j hj=>by simp [List.getD_eq_getElem?_getD,hj])
theorem one_c (w:World):Calls Tryz.prog 60 #[] w fun e w'=>∃v,e=.returned v∧Wd w' v 1∧Ext w w':=by
 go_enter Tryz.func60,Tryz.ntmps60
 go_wp2
 go_ret;refine⟨_,rfl,?_,ab _ _⟩
 refine⟨some ⟨w.heap.size,0,none⟩,1,by rw [dg_one];rfl,by rw [dg_one];simp,?_⟩;rw [dg_one];exact cl_new w [u64 1] 98
theorem word_c (k:Nat) (hk:k<B64) (w:World):Calls Tryz.prog 59 #[.int .u64 k] w fun e w'=>∃v,e=.returned v∧Wd w' v k∧Ext w w':=by
 have hc:Cl (w.alloc (.cells #[.int .u64 (k:Int)] 98)) (some ⟨w.heap.size,0,none⟩) ([k].map u64):=cl_new w [u64 k] 98;have hw:=cut_w (l:=[k]) (by simpa using hk) hc (Nat.le_refl 1);have H:=ZZ hc;have H2:=ZZ hw;clear hc hw
 go_enter Tryz.func59,Tryz.ntmps59
 go_wp2_with fail;refine(cut_c _ [k] _ _ H.out 1 rfl (by omega) (by omega)).mono ?_
 rintro e w' ⟨rfl,rfl⟩
 go_wp2
 go_ret;refine⟨_,rfl,?_,ab _ _⟩
 have:=H2.out
 simpa using this
end Go.Proofs.YtaaoleakkaloeaaGreatDoor
