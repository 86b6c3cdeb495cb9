/- The program's natural numbers: comparing, is1. -/
import Derived.Test.YtkoaakefgacokaaGreatDoorGNat
import Derived.Lib.Hide
import Derived.Laws.Externs
import Derived.Shelf.Spec.BitsCarry
set_option linter.unusedVariables false
set_option maxRecDepth 100000
set_option maxHeartbeats 64000000
namespace Go.Proofs.YtkoaakefgacokaaGreatDoor
open Go.RowKit
theorem cmpR_intro {a b:Nat} {c:Int} (h1:c<0↔a<b) (h2:0<c↔b<a):CmpR a b (.returned (.int .i64 c)):=⟨c,rfl,h1,h2⟩
theorem drewN2 (w:World) (a b:Nat):(w.drewN a).drewN b=w.drewN (a+b):=World.drewN_drewN _ _ _
theorem drewN3 (w:World) (a b c:Nat):((w.drewN a).drewN b).drewN c=w.drewN (a+b+c):=by rw [drewN2,drewN2,Nat.add_assoc]
theorem cmp_c (va vb:Value) (m n:Nat) (w:World) (ha:Wd w va m) (hb:Wd w vb n) (sa:Sm m) (sb:Sm n):Calls Tryz.prog 65 #[va,vb] w fun e w'=>CmpR m n e∧∃k,w'=w.drewN k:=by
 obtain⟨A,ca,rfl,hca,hA⟩:=ha;obtain⟨B,cb,rfl,hcb,hB⟩:=hb;have em:=num_dg m;have en:=num_dg n;have nm:=dg_norm m;have nn:=dg_norm n;unfold Sm at sa sb;generalize dg m=xs at *;generalize dg n=ys at *
 by_cases hl:xs.length=ys.length
 ·have Hl:Hid (xs.length=ys.length):=hl
  have hne:(((xs.length:Nat):Int) != (ys.length:Int))=false:=by simp [hl]
  have hle:xs.length≤ys.length:=by omega
  have hge:ys.length≤xs.length:=by omega
  have Em:Hid (num B64 xs=m):=em;have En:Hid (num B64 ys=n):=en;clear hl em en
  go_enter Tryz.func65,Tryz.ntmps65
  go_wp2
  go_loopw [5] (fun i wr=>∃k q:Nat,k≤xs.length∧i=.int .i64 ((k:Int) - 1)∧wr=w.drewN q∧xs.drop k=ys.drop k) (fun i _=>(intOf i+1).toNat)
  case atStart=>exact⟨xs.length,0,Nat.le_refl _,rfl,rfl,by rw [List.drop_of_length_le (Nat.le_refl _),List.drop_of_length_le (by omega)]⟩
  case round=>
   obtain⟨k,q,hk,rfl,rfl,hdr⟩:=hrel;have Hdr:Hid (xs.drop k=ys.drop k):=hdr;clear hdr
   by_cases h0:k=0
   ·subst h0
    go_wp2
    go_ret;refine⟨cmpR_intro ?_ ?_,_,rfl⟩
    all_goals
     have e:xs=ys:=by simpa using Hdr.out
     have e1:m=n:=by rw [←Em.out,←En.out,e]
     omega
   ·obtain⟨k,rfl⟩:∃j,k=j+1:=⟨k - 1,by omega⟩
    obtain⟨ba,oa,rfl,hca'⟩:=hA.u (by omega);obtain⟨bb,ob,rfl,hcb'⟩:=hB.u (by omega);have ea:=hca' k (by omega);have eb:=hcb' k (by omega);clear h0 hca' hcb' hA hB;have h1:=fun h=>num_lt_of_top nm.lt Hl.out k (by omega) Hdr.out h;have h2:=fun h=>num_lt_of_top nn.lt Hl.out.symm k (by omega) Hdr.out.symm h;have H1:Hid (xs.getD k 0<ys.getD k 0→m<n):=fun h=>by have:=h1 h;rw [Em.out,En.out] at this;exact this
    have H2:Hid (ys.getD k 0<xs.getD k 0→n<m):=fun h=>by have:=h2 h;rw [Em.out,En.out] at this;exact this
    have H3:Hid (xs.getD k 0=ys.getD k 0→xs.drop k=ys.drop k):=fun h=>drop_eq_of (by omega) (by omega) Hdr.out h;clear h1 h2;generalize xs.getD k 0=x at *;generalize ys.getD k 0=y at *
    rcases Nat.lt_trichotomy x y with hxy|hxy|hxy
    ·have t1:((x:Int) != (y:Int))=true:=by simp;omega
     have t2:decide ((x:Int)<(y:Int))=true:=by simp;omega
     go_wp2_with fail
     go_quiet (fail)
     go_wp2_with fail
     go_quiet (fail)
     go_wp2_with fail;go_ret
     have:=H1.out hxy
     exact⟨cmpR_intro (by omega) (by omega),_,drewN3 _ _ _ _⟩
    ·subst hxy
     have t1:((x:Int) != (x:Int))=false:=by simp
     go_wp2_with fail
     go_quiet (fail)
     go_wp2_with fail
     go_roundw
     case rel=>exact⟨k,_,by omega,by simp,rfl,H3.out (by first|rfl|trivial)⟩
     case measure=>simp [intOf]
    ·have t1:((x:Int) != (y:Int))=true:=by simp;omega
     have t2:decide ((x:Int)<(y:Int))=false:=by simp;omega
     go_wp2_with fail
     go_quiet (fail)
     go_wp2_with fail
     go_quiet (fail)
     go_wp2_with fail;go_ret
     have:=H2.out hxy
     exact⟨cmpR_intro (by omega) (by omega),_,drewN3 _ _ _ _⟩
 ·have hne:(((xs.length:Nat):Int) != (ys.length:Int))=true:=by simp;omega
  have hlt:xs.length<ys.length→m<n:=fun h=>by rw [←em,←en];exact num_lt_of_length B64_two nm.lt nn h
  have hgt:ys.length<xs.length→n<m:=fun h=>by rw [←em,←en];exact num_lt_of_length B64_two nn.lt nm h
  have Hlt:Hid (xs.length<ys.length→m<n):=hlt;have Hgt:Hid (ys.length<xs.length→n<m):=hgt;clear hlt hgt em en
  go_enter Tryz.func65,Tryz.ntmps65
  go_wp2
  go_ret;have h1:=Hlt.out
  have h2:=Hgt.out;exact⟨cmpR_intro (by omega) (by omega),0,rfl⟩
def slen:Value→Nat | .slice _ k _=>k|_=>0
theorem dg_one:dg 1=[1]:=by
 unfold dg;rw [dig_pos B64_two (by omega),B64_eq,show 1 / 18446744073709551616=0 from rfl,dig_zero]
theorem is1_iff (n:Nat):n=1↔(dg n).length=1∧(dg n).getD 0 0=1:=by
 constructor
 ·rintro rfl;rw [dg_one];simp
 ·rintro⟨h1,h2⟩
  have e:=num_dg n
  match h:dg n,h1,h2 with
  | [d],_,h2=>rw [h] at e;simp at h2 e;omega
theorem is1_c (va:Value) (n:Nat) (b:Bool) (hb:decide (n=1)=b) (w:World) (ha:Wd w va n):Calls Tryz.prog 53 #[va] w fun e w'=>e=.returned (.bool b)∧w=w':=by
 obtain⟨A,ca,rfl,hca,hA⟩:=ha;have hi:=is1_iff n
 by_cases hl:(dg n).length=1
 ·obtain⟨ba,oa,rfl,hc⟩:=hA.u (by omega)
  have h0:w.cell? ⟨ba,oa,none⟩=some (.int .u64 (((dg n).getD 0 0:Nat):Int)):=by simpa using hc 0 (by omega)
  clear hc hA
  have Hi:Hid (decide ((dg n).getD 0 0=1)=b):=by
   rw [←hb];show decide _=decide _;simp only [hi,hl,true_and]
  clear hi;generalize (dg n).getD 0 0=x at *;have hlt:((((dg n).length:Nat):Int) == 1)=true:=by simp;omega
  have hp:(0:Int)<((dg n).length:Nat):=by omega
  have hp':0<(dg n).length:=by omega
  generalize (dg n).length=k at *
  by_cases hx:x=1
  ·have ht:((x:Int) == 1)=true:=by simp;omega
   have Hb:Hid (b=true):=by have:=Hi.out;rw [←this];exact decide_eq_true hx
   clear hx hb hl
   go_enter Tryz.func53,Tryz.ntmps53
   go_wp2
   go_ret;rw [Hb.out]
   exact⟨rfl,rfl⟩
  ·have ht:((x:Int) == 1)=false:=by simp;omega
   have Hb:Hid (b=false):=by have:=Hi.out;rw [←this];exact decide_eq_false hx
   clear hx hb hl
   go_enter Tryz.func53,Tryz.ntmps53
   go_wp2
   go_ret;rw [Hb.out]
   exact⟨rfl,rfl⟩
 ·have hlt:((((dg n).length:Nat):Int) == 1)=false:=by simp;omega
  have Hb:Hid (b=false):=by rw [←hb];exact decide_eq_false (fun h=>hl (hi.1 h).1)
  clear hl hb hi;generalize (dg n).length=k at *
  go_enter Tryz.func53,Tryz.ntmps53
  go_wp2
  go_ret;rw [Hb.out]
  exact⟨rfl,rfl⟩
theorem cut_c (A:Option Addr) (l:List Nat) (c:Nat) (w:World) (hA:Cl w A (l.map u64)) (n:Nat) (hn:l.length=n) (hc:n≤c) (hs:n≤35184372088832):Calls Tryz.prog 83 #[.slice A n c] w fun e w'=>e=.returned (.slice A (cut l).length c)∧w=w':=by
 subst hn
 go_enter Tryz.func83,Tryz.ntmps83
 go_wp2
 go_loop [0] (fun v=>∃k:Nat,k≤l.length∧v=.slice A k c∧cut (l.take k)=cut l) (fun v=>slen v)
 case atStart=>exact⟨l.length,Nat.le_refl _,rfl,by rw [List.take_length]⟩
 case round=>
  obtain⟨k,hk,rfl,hcut⟩:=hrel;have Hcut:Hid (cut (l.take k)=cut l):=hcut;clear hcut
  rcases k with _|k
  ·go_wp2
   go_ret;refine⟨?_,rfl⟩
   have:=Hcut.out
   simp [cut] at this
   show Ending.returned (Value.slice A 0 c)=_
   rw [this];rfl
  ·obtain⟨b,o,rfl,hcell⟩:=hA.u (by omega)
   have h0:=hcell k (by omega);have hts:=take_snoc_getD l k (by omega);have Hz:Hid (l.getD k 0=0→cut (l.take k)=cut l):=fun h=>by rw [←Hcut.out,hts,h,cut_snoc_zero]
   have Hn:Hid (l.getD k 0≠0→cut l=l.take (k+1)):=fun h=>by
    rw [←Hcut.out];exact cut_of_last (by rw [hts];simpa using h)
   clear hts hcell hA;generalize l.getD k 0=x at *
   by_cases hx:x=0
   ·have ht:((x:Int) == 0)=true:=by simp;omega
    clear hx
    go_wp2
    go_round
    case rel=>exact⟨k,by omega,rfl,Hz.out (by simpa using ht)⟩
    case measure=>simp [slen]
   ·have ht:((x:Int) == 0)=false:=by simp;omega
    go_wp2
    go_ret;refine⟨?_,rfl⟩
    rw [Hn.out hx,List.length_take,Nat.min_eq_left (by omega)]
    rfl
theorem cut_w {A:Option Addr} {l:List Nat} {c:Nat} {w:World} (hl:∀d ∈ l,d<B64) (hA:Cl w A (l.map u64)) (hc:l.length≤c):Wd w (.slice A (cut l).length c) (num B64 l):=by
 have e:=cut_dig B64_two hl
 have hle:(cut l).length≤l.length:=by
  clear e hA hc hl
  induction l with
  | nil=>simp [cut]
  | cons d l ih=>unfold cut;split <;> simp;omega
 have hpre:∃t,l=cut l ++ t:=by
  clear e hA hc hl hle
  induction l with
  | nil=>exact⟨[],by simp [cut]⟩
  | cons d l ih=>
   obtain⟨t,ht⟩:=ih;unfold cut
   split
   ·exact⟨d :: l,rfl⟩
   ·exact⟨t,by rw [List.cons_append,←ht]⟩
 refine⟨A,c,by unfold dg;rw [←e],by unfold dg;rw [←e];omega,?_⟩;unfold dg;rw [←e]
 rcases hA with h|⟨b,o,h1,h2⟩
 ·left
  have:l=[]:=by simpa using h
  rw [this];rfl
 ·right
  refine⟨b,o,h1,fun j hj=>?_⟩;rw [h2 j (by simp at hj ⊢;omega)];obtain⟨t,ht⟩:=hpre
  conv=>lhs;rw [ht]
  simp at hj
  simp [List.getD_eq_getElem?_getD,List.getElem?_append,hj]
theorem cl_block {w:World} {g o:Nat} {cs:Array Value} {t:TypeId} {fr:Nat × Nat} {xs:List Value} (hg:w.heap[g]?=some (.cells cs t fr)) (h:∀j,j<xs.length→cs[o+j]?=some (xs.getD j undef)):Cl w (some ⟨g,o,none⟩) xs:=
 .inr ⟨g,o,rfl,fun j hj=>by rw [cell_of_row w g (o+j) cs t fr hg];exact h j hj⟩
theorem cl_new (w:World) (xs:List Value) (t:TypeId):Cl (w.alloc (.cells xs.toArray t)) (some ⟨w.heap.size,0,none⟩) xs:=
 cl_block (heap_alloc_new w _) (fun j hj=>by simp [List.getD_eq_getElem?_getD,hj])
theorem one_c (w:World):Calls Tryz.prog 42 #[] w fun e w'=>∃v,e=.returned v∧Wd w' v 1∧Ext w w':=by
 go_enter Tryz.func42,Tryz.ntmps42
 go_wp2
 go_ret;refine⟨_,rfl,?_,ab _ _⟩
 refine⟨some ⟨w.heap.size,0,none⟩,1,by rw [dg_one];rfl,by rw [dg_one];simp,?_⟩;rw [dg_one];exact cl_new w [u64 1] 85
theorem word_c (k:Nat) (hk:k<B64) (w:World):Calls Tryz.prog 41 #[.int .u64 k] w fun e w'=>∃v,e=.returned v∧Wd w' v k∧Ext w w':=by
 have hc:Cl (w.alloc (.cells #[.int .u64 (k:Int)] 85)) (some ⟨w.heap.size,0,none⟩) ([k].map u64):=cl_new w [u64 k] 85;have hw:=cut_w (l:=[k]) (by simpa using hk) hc (Nat.le_refl 1);have H:=ZZ hc;have H2:=ZZ hw;clear hc hw
 go_enter Tryz.func41,Tryz.ntmps41
 go_wp2_with fail;refine(cut_c _ [k] _ _ H.out 1 rfl (by omega) (by omega)).mono ?_
 rintro e w' ⟨rfl,rfl⟩
 go_wp2
 go_ret;refine⟨_,rfl,?_,ab _ _⟩
 have:=H2.out
 simpa using this
def zs (n:Nat):List Nat:=List.replicate n 0
theorem zs_length (n:Nat):(zs n).length=n:=by simp [zs]
theorem zs_lt {B:Nat} (hB:0<B) (n:Nat):∀d ∈ zs n,d<B:=by intro d hd;simp [zs] at hd;omega
theorem info_u64:(Tryz.prog.info? 85).map (fun i=>(i.zero,i.size,i.bytes))=some (some (.int .u64 0),1,8):=by kernel_rfl
theorem mk_words (n:Nat) (z:Int) (hz:z=(n:Int)) (hn:n≤35184372088832) (w:World):(Instr.makeSlice 36 (.int .i64 z) (.int .i64 z)).run Tryz.prog w=.ok (.slice (some ⟨w.heap.size,0,none⟩) n n) (w.alloc (.cells ((zs n).map u64).toArray 85)):=by
 subst hz;obtain⟨i,hi,h1,h2,h3⟩:=info_parts info_u64;have h:=run_make (P:=Tryz.prog) w 36 85 i (.int .u64 0) Tryz.underlying36 hi h1 .i64 .i64 (n:Int) (n:Int) (by omega) (Int.le_refl _) (by rw [h3];omega) (by omega);rw [h]
 have e:madeCells (Value.int .u64 0).cells (n*i.size)=((zs n).map u64).toArray:=by
  rw [h2,Nat.mul_one]
  have:=toList_madeCells_one (.int .u64 0) n
  have h':(madeCells (Value.int .u64 0).cells n).toList=(zs n).map u64:=by
   rw [show (Value.int .u64 0).cells=#[Value.int .u64 0] from rfl,this];simp [zs,u64]
  rw [←h']
 simp only [Int.toNat_natCast,e]
def BkU (w:World) (g:Nat) (l:List Nat):Prop:=w.heap[g]?=some (.cells (l.map u64).toArray 85 (0,0))
theorem BkU.lt {w:World} {g:Nat} {l:List Nat} (h:BkU w g l):g<w.heap.size:=by
 rcases Nat.lt_or_ge g w.heap.size with hlt|hge
 ·exact hlt
 ·unfold BkU at h;rw [Array.getElem?_eq_none hge] at h;cases h
theorem BkU.cell {w:World} {g:Nat} {l:List Nat} (h:BkU w g l) (i:Nat) (hi:i<l.length):w.cell? ⟨g,i,none⟩=some (.int .u64 ((l.getD i 0:Nat):Int)):=by
 rw [cell_of_row w g i _ _ _ h];simp [hi,u64,List.getD_eq_getElem?_getD]
theorem BkU.frozen {w:World} {g:Nat} {l:List Nat} (h:BkU w g l) (i:Nat):w.frozen? ⟨g,i,none⟩=false:=frozen_of_row w g i _ _ h
theorem BkU.new (w:World) (l:List Nat):BkU (w.alloc (.cells (l.map u64).toArray 85)) w.heap.size l:=heap_alloc_new w _
theorem BkU.set_ {w:World} {g:Nat} {l:List Nat} (h:BkU w g l) (i v:Nat):BkU (w.setCell ⟨g,i,none⟩ (.int .u64 (v:Int))) g (l.set i v):=by
 unfold BkU at h ⊢
 simp only [World.setCell,Array.getElem?_modify,h]
 simp [List.map_set,u64]
theorem BkU.ext {w w':World} {g:Nat} {l:List Nat} (h:BkU w g l) (k:Ext w w'):BkU w' g l:=(k.block g h.lt).trans h
theorem BkU.cl {w:World} {g:Nat} {l:List Nat} (h:BkU w g l):Cl w (some ⟨g,0,none⟩) (l.map u64):=
 cl_block h (fun j hj=>by simp [List.getD_eq_getElem?_getD] at hj ⊢;simp [hj])
theorem BkU.cl_take {w:World} {g:Nat} {l:List Nat} (h:BkU w g l) (k:Nat):Cl w (some ⟨g,0,none⟩) ((l.take k).map u64):=
 cl_block h (fun j hj=>by
  simp at hj
  have hj2:j<l.length:=by omega
  simp [List.getD_eq_getElem?_getD,hj,hj2])
theorem set_take_succ (l:List Nat) (i v:Nat) (h:i<l.length):(l.set i v).take (i+1)=l.take i ++ [v]:=by
 rw [take_snoc_getD _ _ (by simpa using h),List.take_set_of_le (Nat.le_refl i)]
 simp [List.getD_eq_getElem?_getD,h]
theorem num_set_take (B:Nat) (l:List Nat) (i v:Nat) (h:i<l.length):num B ((l.set i v).take (i+1))=num B (l.take i)+B ^ i*v:=by
 rw [set_take_succ l i v h,num_snoc,List.length_take,Nat.min_eq_left (by omega)]
theorem set_lt {B:Nat} {l:List Nat} (h:∀d ∈ l,d<B) {v:Nat} (hv:v<B) (i:Nat):∀d ∈ l.set i v,d<B:=fun d hd=>by
 rcases List.mem_or_eq_of_mem_set hd with h1|h1
 ·exact h d h1
 ·rw [h1];exact hv
theorem num_take_le (B:Nat) (l:List Nat) (i:Nat):num B (l.take (i+1))=num B (l.take i)+B ^ i*l.getD i 0:=by
 rcases Nat.lt_or_ge i l.length with h|h
 ·exact num_take_succ B l i h
 ·rw [List.take_of_length_le (by omega),List.take_of_length_le h,List.getD_eq_getElem?_getD,List.getElem?_eq_none h];simp
theorem run_add (x y c:Nat) (hc:c≤1) (hx:x<B64) (hy:y<B64):∃s c':Nat,s<B64∧c'≤1∧s+B64*c'=x+y+c∧∀w,(callFunc 107 #[.int .u64 x,.int .u64 y,.int .u64 c]).run Tryz.prog w=.ok (.value (.tuple #[.int .u64 s,.int .u64 c'])) w:=by
 rw [B64_eq] at *;refine⟨(x+y+c) % 18446744073709551616,(x+y+c) / 18446744073709551616,Nat.mod_lt _ (by omega),by omega,by omega,fun w=>?_⟩;rw [run_callFunc_extern Tryz.func107 (by kernel_rfl) (by kernel_rfl) (by kernel_rfl) (e:=add64Entry) (by kernel_rfl),run_add64 x y c (by omega) (by omega) (by omega) (by omega)]
 simp only [Result.andThen]
 congr 5 <;> omega
theorem run_sub (x y b:Nat) (hc:b≤1) (hx:x<B64) (hy:y<B64):∃s b':Nat,s<B64∧b'≤1∧s+y+b=x+B64*b'∧∀w,(callFunc 109 #[.int .u64 x,.int .u64 y,.int .u64 b]).run Tryz.prog w=.ok (.value (.tuple #[.int .u64 s,.int .u64 b'])) w:=by
 rw [B64_eq] at *;refine⟨(x+18446744073709551616 - y - b) % 18446744073709551616,if x<y+b then 1 else 0,Nat.mod_lt _ (by omega),by split <;> omega,by split <;> omega,fun w=>?_⟩;rw [run_callFunc_extern Tryz.func109 (by kernel_rfl) (by kernel_rfl) (by kernel_rfl) (e:=sub64Entry) (by kernel_rfl),run_sub64 x y b hc]
 rfl
def CarR (g n val:Nat) (w w':World) (e:Ending):Prop:=
 ∃r:List Nat,e=.returned (.slice (some ⟨g,0,none⟩) (n+1) (n+1))∧r.length=n+1∧(∀d ∈ r,d<B64)∧BkU w' g r∧num B64 r=val∧Ext w w'
theorem add_step {R A C P B c s c' x y:Nat} (h:R+P*c=A+C) (hs:s+B*c'=x+y+c):R+P*s+P*B*c'=(A+P*x)+(C+P*y):=by
 have:P*(s+B*c')=P*(x+y+c):=by rw [hs]
 grind
theorem carried_add_c (A B:Option Addr) (la lb:List Nat) (ca cb:Nat) (w:World) (n m:Nat) (hn:la.length=n) (hm:lb.length=m) (hA:Cl w A (la.map u64)) (hB:Cl w B (lb.map u64)) (hla:∀d ∈ la,d<B64) (hlb:∀d ∈ lb,d<B64) (hle:m≤n) (hs:n≤2199023255552):Calls Tryz.prog 108 #[.slice A n ca,.slice B m cb,.func (.func 107) #[] #[]] w fun e w'=>CarR w.heap.size n (num B64 la+num B64 lb) w w' e:=by
 have Hn:Hid (la.length=n):=hn;have Hm:Hid (lb.length=m):=hm;have Hla:=ZZ hla;have Hlb:=ZZ hlb;have hmk:=mk_words (n+1) ((n:Int)+1) (by omega) (by omega);clear hn hm hla hlb
 go_enter Tryz.func108,Tryz.ntmps108
 go_wp2
 go_loopw [8,18] (fun c i wr=>∃(k cy:Nat) (r:List Nat),k≤n∧i=.int .i64 k∧c=.int .u64 cy∧cy≤1∧r.length=n+1∧(∀d ∈ r,d<B64)∧BkU wr w.heap.size r∧Below w.heap.size w wr∧num B64 (r.take k)+B64 ^ k*cy=num B64 (la.take k)+num B64 (lb.take k)) (fun _ i _=>n - (intOf i).toNat)
 case atStart=>exact⟨0,0,zs (n+1),Nat.zero_le _,rfl,rfl,by omega,zs_length _,zs_lt (by rw [B64_eq];omega) _,BkU.new _ _,ab _ _,by simp⟩
 case round=>
  obtain⟨k,cy,r,hk,rfl,rfl,hcy,hr,hrl,hbk,hbel,hnum⟩:=hrel;have Hr:Hid (r.length=n+1):=hr;have Hrl:=ZZ hrl;have Hbk:Hid (BkU wr w.heap.size r):=hbk;have Hnum:=ZZ hnum;clear hr hrl hnum hbk
  by_cases hlt:k<n
  ·have hci:=Hbk.out.cell k (by rw [Hr.out];omega)
   have hfi:=Hbk.out.frozen k;have hxl:=getD_lt Hla.out (by rw [B64_eq];omega) k;have hyl:=getD_lt Hlb.out (by rw [B64_eq];omega) k;have hcyl:cy<B64:=by rw [B64_eq];omega
   have hstep:∀s c':Nat,s<B64→s+B64*c'=la.getD k 0+lb.getD k 0+cy→Hid (num B64 ((r.set k s).take (k+1))+B64 ^ (k+1)*c'=num B64 (la.take (k+1))+num B64 (lb.take (k+1))):=fun s c' _ h=>by
    have:=add_step Hnum.out h
    show _=_
    rw [num_set_take _ _ _ _ (by rw [Hr.out];omega),num_take_le,num_take_le,Nat.pow_succ];exact this
   obtain⟨ba,oa,rfl,hca'⟩:=hA.u (by rw [Hn.out];omega);have ea:=ao hbel (hca' k (by rw [Hn.out];omega));clear hca' hA;generalize hgx:la.getD k 0=x at *;clear hgx
   by_cases hkm:k<m
   ·obtain⟨bb,ob,rfl,hcb'⟩:=hB.u (by rw [Hm.out];omega)
    have eb:=ao hbel (hcb' k (by rw [Hm.out];omega));clear hcb' hB;generalize hgy:lb.getD k 0=y at *;clear hgy;obtain⟨s,c',hs1,hc1,hsc,hrun⟩:=run_add x y cy hcy hxl hyl;have Hsc:=hstep s c' hs1 hsc;have Hs1:=ZZ hs1;have Hset:=ZZ (Hbk.out.set_ k s);clear hstep hsc hs1 hxl hyl
    go_wp2
    go_roundw
    case rel=>exact⟨k+1,c',r.set k s,by omega,by go_num,rfl,hc1,by rw [List.length_set,Hr.out],set_lt Hrl.out Hs1.out k,Hset.out,hbel.setCell (Nat.le_refl _) _,Hsc.out⟩
    case measure=>simp [intOf];omega
   ·have ey:lb.getD k 0=0:=by rw [List.getD_eq_getElem?_getD,List.getElem?_eq_none (by rw [Hm.out];omega)];rfl
    rw [ey] at hstep hyl;clear ey;obtain⟨s,c',hs1,hc1,hsc,hrun⟩:=run_add x 0 cy hcy hxl hyl;have hrun':∀w,(callFunc 107 #[.int .u64 x,.int .u64 0,.int .u64 cy]).run Tryz.prog w=.ok (.value (.tuple #[.int .u64 s,.int .u64 c'])) w:=hrun;have Hsc:=hstep s c' hs1 hsc;have Hs1:=ZZ hs1;have Hset:=ZZ (Hbk.out.set_ k s);clear hstep hsc hs1 hxl hyl hrun
    go_wp2
    go_roundw
    case rel=>exact⟨k+1,c',r.set k s,by omega,by go_num,rfl,hc1,by rw [List.length_set,Hr.out],set_lt Hrl.out Hs1.out k,Hset.out,hbel.setCell (Nat.le_refl _) _,Hsc.out⟩
    case measure=>simp [intOf];omega
  ·have hkn:k=n:=by omega
   subst hkn;have hci:=Hbk.out.cell k (by rw [Hr.out];omega);have hfi:=Hbk.out.frozen k;have Hset:=ZZ (Hbk.out.set_ k cy);have Hcy:Hid (cy<B64):=by show _<_;rw [B64_eq];omega
   go_wp2
   go_ret;refine⟨r.set k cy,rfl,by rw [List.length_set,Hr.out],set_lt Hrl.out Hcy.out k,Hset.out,?_,hbel.setCell (Nat.le_refl _) _⟩
   have h1:=Hnum.out;rw [num_take_all B64 la (by rw [Hn.out];omega),num_take_all B64 lb (by rw [Hm.out];omega)] at h1;rw [←h1,←num_set_take B64 r k cy (by rw [Hr.out];omega),num_take_all _ _ (by rw [List.length_set,Hr.out];omega)]
def CarS (g n a b:Nat) (w w':World) (e:Ending):Prop:=
 ∃r:List Nat,e=.returned (.slice (some ⟨g,0,none⟩) (n+1) (n+1))∧r.length=n+1∧(∀d ∈ r,d<B64)∧BkU w' g r∧(b≤a→num B64 (r.take n)=a - b)∧Ext w w'
theorem sub_step {R A C P B c s c' x y:Nat} (h:R+C=A+P*c) (hs:s+y+c=x+B*c'):R+P*s+(C+P*y)=A+P*x+P*B*c':=by
 have:P*(s+y+c)=P*(x+B*c'):=by rw [hs]
 grind
theorem carried_sub_c (A B:Option Addr) (la lb:List Nat) (ca cb:Nat) (w:World) (n m:Nat) (hn:la.length=n) (hm:lb.length=m) (hA:Cl w A (la.map u64)) (hB:Cl w B (lb.map u64)) (hla:∀d ∈ la,d<B64) (hlb:∀d ∈ lb,d<B64) (hle:m≤n) (hs:n≤2199023255552):Calls Tryz.prog 108 #[.slice A n ca,.slice B m cb,.func (.func 109) #[] #[]] w fun e w'=>CarS w.heap.size n (num B64 la) (num B64 lb) w w' e:=by
 have Hn:Hid (la.length=n):=hn;have Hm:Hid (lb.length=m):=hm;have Hla:=ZZ hla;have Hlb:=ZZ hlb;have hmk:=mk_words (n+1) ((n:Int)+1) (by omega) (by omega);clear hn hm hla hlb
 go_enter Tryz.func108,Tryz.ntmps108
 go_wp2
 go_loopw [8,18] (fun c i wr=>∃(k cy:Nat) (r:List Nat),k≤n∧i=.int .i64 k∧c=.int .u64 cy∧cy≤1∧r.length=n+1∧(∀d ∈ r,d<B64)∧BkU wr w.heap.size r∧Below w.heap.size w wr∧num B64 (r.take k)+num B64 (lb.take k)=num B64 (la.take k)+B64 ^ k*cy) (fun _ i _=>n - (intOf i).toNat)
 case atStart=>exact⟨0,0,zs (n+1),Nat.zero_le _,rfl,rfl,by omega,zs_length _,zs_lt (by rw [B64_eq];omega) _,BkU.new _ _,ab _ _,by simp⟩
 case round=>
  obtain⟨k,cy,r,hk,rfl,rfl,hcy,hr,hrl,hbk,hbel,hnum⟩:=hrel;have Hr:Hid (r.length=n+1):=hr;have Hrl:=ZZ hrl;have Hbk:Hid (BkU wr w.heap.size r):=hbk;have Hnum:=ZZ hnum;clear hr hrl hnum hbk
  by_cases hlt:k<n
  ·have hci:=Hbk.out.cell k (by rw [Hr.out];omega)
   have hfi:=Hbk.out.frozen k;have hxl:=getD_lt Hla.out (by rw [B64_eq];omega) k;have hyl:=getD_lt Hlb.out (by rw [B64_eq];omega) k;have hcyl:cy<B64:=by rw [B64_eq];omega
   have hstep:∀s c':Nat,s<B64→s+lb.getD k 0+cy=la.getD k 0+B64*c'→Hid (num B64 ((r.set k s).take (k+1))+num B64 (lb.take (k+1))=num B64 (la.take (k+1))+B64 ^ (k+1)*c'):=fun s c' _ h=>by
    have:=sub_step Hnum.out h
    show _=_
    rw [num_set_take _ _ _ _ (by rw [Hr.out];omega),num_take_le,num_take_le,Nat.pow_succ];exact this
   obtain⟨ba,oa,rfl,hca'⟩:=hA.u (by rw [Hn.out];omega);have ea:=ao hbel (hca' k (by rw [Hn.out];omega));clear hca' hA;generalize hgx:la.getD k 0=x at *;clear hgx
   by_cases hkm:k<m
   ·obtain⟨bb,ob,rfl,hcb'⟩:=hB.u (by rw [Hm.out];omega)
    have eb:=ao hbel (hcb' k (by rw [Hm.out];omega));clear hcb' hB;generalize hgy:lb.getD k 0=y at *;clear hgy;obtain⟨s,c',hs1,hc1,hsc,hrun⟩:=run_sub x y cy hcy hxl hyl;have Hsc:=hstep s c' hs1 hsc;have Hs1:=ZZ hs1;have Hset:=ZZ (Hbk.out.set_ k s);clear hstep hsc hs1 hxl hyl
    go_wp2
    go_roundw
    case rel=>exact⟨k+1,c',r.set k s,by omega,by go_num,rfl,hc1,by rw [List.length_set,Hr.out],set_lt Hrl.out Hs1.out k,Hset.out,hbel.setCell (Nat.le_refl _) _,Hsc.out⟩
    case measure=>simp [intOf];omega
   ·have ey:lb.getD k 0=0:=by rw [List.getD_eq_getElem?_getD,List.getElem?_eq_none (by rw [Hm.out];omega)];rfl
    rw [ey] at hstep hyl;clear ey;obtain⟨s,c',hs1,hc1,hsc,hrun⟩:=run_sub x 0 cy hcy hxl hyl;have hrun':∀w,(callFunc 109 #[.int .u64 x,.int .u64 0,.int .u64 cy]).run Tryz.prog w=.ok (.value (.tuple #[.int .u64 s,.int .u64 c'])) w:=hrun;have Hsc:=hstep s c' hs1 hsc;have Hs1:=ZZ hs1;have Hset:=ZZ (Hbk.out.set_ k s);clear hstep hsc hs1 hxl hyl hrun
    go_wp2
    go_roundw
    case rel=>exact⟨k+1,c',r.set k s,by omega,by go_num,rfl,hc1,by rw [List.length_set,Hr.out],set_lt Hrl.out Hs1.out k,Hset.out,hbel.setCell (Nat.le_refl _) _,Hsc.out⟩
    case measure=>simp [intOf];omega
  ·have hkn:k=n:=by omega
   subst hkn;have hci:=Hbk.out.cell k (by rw [Hr.out];omega);have hfi:=Hbk.out.frozen k;have Hset:=ZZ (Hbk.out.set_ k cy);have Hcy:Hid (cy<B64):=by show _<_;rw [B64_eq];omega
   go_wp2
   go_ret;have h1:=Hnum.out
   rw [num_take_all B64 la (by rw [Hn.out];omega),num_take_all B64 lb (by rw [Hm.out];omega)] at h1;refine⟨r.set k cy,rfl,by rw [List.length_set,Hr.out],set_lt Hrl.out Hcy.out k,Hset.out,fun hle=>?_,hbel.setCell (Nat.le_refl _) _⟩;have h2:=num_lt B64 (r.take k) (fun d hd=>Hrl.out d (List.mem_of_mem_take hd));rw [List.length_take,Nat.min_eq_left (by rw [Hr.out];omega)] at h2;rw [List.take_set_of_le (Nat.le_refl k)]
   have h3:cy=0:=by
    rcases Nat.lt_or_ge 0 cy with h|h
    ·have:B64 ^ k*1≤B64 ^ k*cy:=Nat.mul_le_mul_left _ h
     omega
    ·omega
   rw [h3] at h1;omega
theorem dg_lt (n:Nat):∀d ∈ dg n,d<B64:=(dg_norm n).lt
theorem add_c (va vb:Value) (m n:Nat) (w:World) (ha:Wd w va m) (hb:Wd w vb n) (sa:Sm m) (sb:Sm n):Calls Tryz.prog 64 #[va,vb] w fun e w'=>∃v,e=.returned v∧Wd w' v (m+n)∧Ext w w':=by
 obtain⟨A,ca,rfl,hca,hA⟩:=ha;obtain⟨B,cb,rfl,hcb,hB⟩:=hb;have lm:=dg_lt m;have ln:=dg_lt n;have em:=num_dg m;have en:=num_dg n;unfold Sm at sa sb;generalize dg m=xs at *;generalize dg n=ys at *;obtain⟨p,hp⟩:∃p,xs.length=p:=⟨_,rfl⟩;obtain⟨q,hq⟩:∃q,ys.length=q:=⟨_,rfl⟩;rw [hp] at hca sa ⊢;rw [hq] at hcb sb ⊢;have Hp:=ZZ hp;have Hq:=ZZ hq;have Lm:=ZZ lm;have Ln:=ZZ ln;have Em:=ZZ em;have En:=ZZ en;clear hp hq lm ln em en
 by_cases hlt:p<q
 ·go_enter Tryz.func64,Tryz.ntmps64
  go_wp2_with fail;refine(carried_add_c B A ys xs cb ca _ q p Hq.out Hp.out hB hA Ln.out Lm.out (by omega) (by omega)).mono ?_
  rintro e w1 ⟨r,rfl,hr,hrl,hbk,hnum,hext⟩;have Hr:=ZZ hr;have Hrl:=ZZ hrl;have Hbk:Hid (BkU w1 w.heap.size r):=hbk;have Hnum:=ZZ hnum;clear hr hrl hbk hnum;go_wp2_with fail;refine(cut_c _ r _ _ Hbk.out.cl (q+1) Hr.out (by omega) (by omega)).mono ?_;rintro e w2 ⟨rfl,rfl⟩;go_wp2_with fail;go_ret;refine⟨_,rfl,?_,hext⟩
  have:=cut_w Hrl.out Hbk.out.cl (c:=q+1) (by rw [Hr.out];omega)
  rw [Hnum.out,Em.out,En.out,Nat.add_comm n m] at this;exact this
 ·go_enter Tryz.func64,Tryz.ntmps64
  go_wp2_with fail;refine(carried_add_c A B xs ys ca cb _ p q Hp.out Hq.out hA hB Lm.out Ln.out (by omega) (by omega)).mono ?_
  rintro e w1 ⟨r,rfl,hr,hrl,hbk,hnum,hext⟩;have Hr:=ZZ hr;have Hrl:=ZZ hrl;have Hbk:Hid (BkU w1 w.heap.size r):=hbk;have Hnum:=ZZ hnum;clear hr hrl hbk hnum;go_wp2_with fail;refine(cut_c _ r _ _ Hbk.out.cl (p+1) Hr.out (by omega) (by omega)).mono ?_;rintro e w2 ⟨rfl,rfl⟩;go_wp2_with fail;go_ret;refine⟨_,rfl,?_,hext⟩
  have:=cut_w Hrl.out Hbk.out.cl (c:=p+1) (by rw [Hr.out];omega)
  rw [Hnum.out,Em.out,En.out] at this;exact this
theorem sub_c (va vb:Value) (m n:Nat) (w:World) (ha:Wd w va m) (hb:Wd w vb n) (sa:Sm m) (hle:n≤m):Calls Tryz.prog 66 #[va,vb] w fun e w'=>∃v,e=.returned v∧Wd w' v (m - n)∧Ext w w':=by
 obtain⟨A,ca,rfl,hca,hA⟩:=ha;obtain⟨B,cb,rfl,hcb,hB⟩:=hb;have lm:=dg_lt m;have ln:=dg_lt n;have em:=num_dg m;have en:=num_dg n;have hmono:=dig_length_mono B64_two hle
 change (dg n).length≤(dg m).length at hmono
 unfold Sm at sa;generalize dg m=xs at *;generalize dg n=ys at *;obtain⟨p,hp⟩:∃p,xs.length=p:=⟨_,rfl⟩;obtain⟨q,hq⟩:∃q,ys.length=q:=⟨_,rfl⟩;rw [hp] at hca sa hmono ⊢;rw [hq] at hcb hmono ⊢;have Hp:=ZZ hp;have Hq:=ZZ hq;have Lm:=ZZ lm;have Ln:=ZZ ln;have Em:=ZZ em;have En:=ZZ en;clear hp hq lm ln em en
 go_enter Tryz.func66,Tryz.ntmps66
 go_wp2_with fail;refine(carried_sub_c A B xs ys ca cb _ p q Hp.out Hq.out hA hB Lm.out Ln.out (by omega) (by omega)).mono ?_
 rintro e w1 ⟨r,rfl,hr,hrl,hbk,hnum,hext⟩;have Hr:=ZZ hr;have Hrl:=ZZ hrl;have Hbk:Hid (BkU w1 w.heap.size r):=hbk;have Hnum:=ZZ hnum;clear hr hrl hbk hnum;go_wp2_with fail;refine(cut_c _ (r.take p) _ _ (Hbk.out.cl_take p) p (by rw [List.length_take,Hr.out];omega) (by omega) (by omega)).mono ?_;rintro e w2 ⟨rfl,rfl⟩;go_wp2_with fail;go_ret;refine⟨_,rfl,?_,hext⟩
 have:=cut_w (fun d hd=>Hrl.out d (List.mem_of_mem_take hd)) (Hbk.out.cl_take p) (c:=p+1) (by rw [List.length_take,Hr.out];omega)
 rw [Hnum.out (by rw [Em.out,En.out];exact hle),Em.out,En.out] at this;exact this
end Go.Proofs.YtkoaakefgacokaaGreatDoor
