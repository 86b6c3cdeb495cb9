/- The reference's texts: the sign, the parts, rows of digits; one. Products of polynomials, plain: what out holds after i rounds and j of the next. Products of polynomials: the walk. Printed by gen_qn.py. -/
import Derived.Test.YtaaoleakkaloeaaGreatDoorGRi
import Derived.Test.YtaaoleakkaloeaaGreatDoorGTg
import Derived.Test.YtaaoleakkaloeaaGreatDoorGVx
import Derived.Laws.MakeOwn
set_option linter.unusedVariables false
set_option maxRecDepth 100000
set_option maxHeartbeats 64000000
namespace Go.Proofs.YtaaoleakkaloeaaGreatDoor
open Go.RowKit
theorem dr_one:dr 1=[1]:=by
 unfold dr;rw [dig_pos B30_two (by omega),B30_eq,show 1 / 1073741824=0 from rfl,dig_zero]
theorem one_f (w:World):Calls Tryz.prog 74 #[] w fun e w'=>∃v,e=.returned v∧Wr w' v 1∧Ext w w'∧Fr w.heap.size v:=by
 go_enter Tryz.func74,Tryz.ntmps74
 go_wp2
 go_ret;refine⟨_,rfl,?_,ac _ _,fun b hb=>by cases hb;exact Nat.le_refl _⟩
 refine⟨some ⟨w.heap.size,0,none⟩,1,by rw [dr_one];rfl,by rw [dr_one];simp,?_⟩;rw [dr_one];exact cl_new w [i64n 1] 2
theorem ris1_iff (n:Nat):n=1↔(dr n).length=1∧(dr n).getD 0 0=1:=by
 constructor
 ·rintro rfl;rw [dr_one];simp
 ·rintro⟨h1,h2⟩
  have e:=num_dr n
  match h:dr n,h1,h2 with
  | [d],_,h2=>rw [h] at e;simp at h2 e;omega
theorem is1_r (va:Value) (n:Nat) (b:Bool) (hb:decide (n=1)=b) (w:World) (ha:Wr w va n):Calls Tryz.prog 75 #[va] w fun e w'=>e=.returned (.bool b)∧w=w':=by
 obtain⟨A,ca,rfl,hca,hA⟩:=ha;have hi:=ris1_iff n
 by_cases hl:(dr n).length=1
 ·obtain⟨ba,oa,rfl,hc⟩:=hA.i (by omega)
  have h0:w.cell? ⟨ba,oa,none⟩=some (.int .i64 (((dr n).getD 0 0:Nat):Int)):=by have h1:=hc 0 (by omega);rwa [Nat.add_zero] at h1
  clear hc hA
  have Hi:Hid (decide ((dr n).getD 0 0=1)=b):=by
   rw [←hb];show decide _=decide _;simp only [hi,hl,true_and]
  clear hi;generalize (dr n).getD 0 0=x at *;have hlt:((((dr n).length:Nat):Int) == 1)=true:=by simp;omega
  have hp:(0:Int)<((dr n).length:Nat):=by omega
  have hp':0<(dr n).length:=by omega
  generalize (dr n).length=k at *
  by_cases hx:x=1
  ·have ht:((x:Int) == 1)=true:=by simp;omega
   have Hb:Hid (b=true):=by have:=Hi.out;rw [←this];exact decide_eq_true hx
   clear hx hb hl
   go_enter Tryz.func75,Tryz.ntmps75
   go_wp2
   go_ret;rw [Hb.out]
   exact⟨rfl,rfl⟩
  ·have ht:((x:Int) == 1)=false:=by simp;omega
   have Hb:Hid (b=false):=by have:=Hi.out;rw [←this];exact decide_eq_false hx
   clear hx hb hl
   go_enter Tryz.func75,Tryz.ntmps75
   go_wp2
   go_ret;rw [Hb.out]
   exact⟨rfl,rfl⟩
 ·have hlt:((((dr n).length:Nat):Int) == 1)=false:=by simp;omega
  have Hb:Hid (b=false):=by rw [←hb];exact decide_eq_false (fun h=>hl (hi.1 h).1)
  clear hl hb hi;generalize (dr n).length=k at *
  go_enter Tryz.func75,Tryz.ntmps75
  go_wp2
  go_ret;rw [Hb.out]
  exact⟨rfl,rfl⟩
def sgnB (b:Bool):Int:=if b=true then -1 else 1
theorem minus_no {c:UInt8} {l:List UInt8} (h:c≠45):minusB (c :: l)=false∧restB (c :: l)=c :: l:=by
 have hne:¬(45:UInt8)=c:=fun e=>h e.symm;unfold minusB restB Lib.trimPrefix Lib.hasPrefix
 simp [List.isPrefixOf,hne]
theorem minus_yes (l:List UInt8):minusB (45 :: l)=true∧restB (45 :: l)=l:=by
 unfold minusB restB Lib.trimPrefix Lib.hasPrefix
 simp [List.isPrefixOf]
theorem signed_r (l:List UInt8) (hs:l.length≤9223372036854775807) (w:World):Calls Tryz.prog 69 #[.string ⟨l.toArray⟩] w fun e w'=>e=.returned (.tuple #[.string ⟨(restB l).toArray⟩,.int .i64 (sgnB (minusB l))])∧w'=w:=by
 rcases l with _|⟨c,l⟩
 ·have h1:minusB []=false:=rfl
  have h2:restB []=[]:=rfl;rw [h1,h2]
  go_enter Tryz.func69,Tryz.ntmps69
  go_wp2_with fail;refine bodyPost_ret (v:=.tuple #[.string ⟨#[]⟩,.int .i64 1]) (by simp [results,Tryz.f69]) rfl ?_
  exact⟨rfl,rfl⟩
 ·have hsz:(⟨(c :: l).toArray⟩:ByteArray).size=l.length+1:=by simp [ByteArray.size]
  have hz1:0<(⟨(c :: l).toArray⟩:ByteArray).size:=by rw [hsz];omega
  have hge:(⟨(c :: l).toArray⟩:ByteArray)[0]'hz1=c:=by rfl
  have hp:(0:Int)<((l.length+1:Nat):Int):=by omega
  have hx:(⟨(c :: l).toArray⟩:ByteArray).extract 1 (l.length+1)=⟨l.toArray⟩:=by apply ByteArray.ext;simp
  by_cases h:c=45
  ·subst h
   have ht:((((⟨(45 :: l).toArray⟩:ByteArray)[0]'hz1).toNat:Int) == 45)=true:=by rw [hge];rfl
   have HM:=ZZ (minus_yes l);clear hge
   go_enter Tryz.func69,Tryz.ntmps69
   go_wp2_with fail;refine bodyPost_ret (v:=.tuple #[.string ⟨l.toArray⟩,.int .i64 (-1)]) (by simp [results,Tryz.f69]) rfl ?_
   exact⟨by rw [HM.out.1,HM.out.2];rfl,rfl⟩
  ·have ht:((((⟨(c :: l).toArray⟩:ByteArray)[0]'hz1).toNat:Int) == 45)=false:=by
    rw [hge,beq_eq_false_iff_ne];intro e
    apply h
    apply UInt8.toNat_inj.1
    have e45:(45:UInt8).toNat=45:=rfl;omega
   have HM:=ZZ (minus_no (l:=l) h);clear hge h
   go_enter Tryz.func69,Tryz.ntmps69
   go_wp2_with fail;refine bodyPost_ret (v:=.tuple #[.string ⟨(c :: l).toArray⟩,.int .i64 1]) (by simp [results,Tryz.f69]) rfl ?_
   exact⟨by rw [HM.out.1,HM.out.2];rfl,rfl⟩
end Go.Proofs.YtaaoleakkaloeaaGreatDoor
set_option linter.unusedVariables false
set_option maxRecDepth 100000
set_option maxHeartbeats 64000000
namespace Go.Proofs.YtaaoleakkaloeaaGreatDoor
def pcv (f g:Nat→Rat):Nat→Nat→Rat
 | 0,_=>0
 | i+1,k=>pcv f g i k+(if i≤k then f i*g (k - i) else 0)
theorem pcv_succ (f g:Nat→Rat) (i k:Nat):pcv f g (i+1) k=pcv f g i k+(if i≤k then f i*g (k - i) else 0):=rfl
theorem pcv_shift (f g:Nat→Rat) (i k:Nat):pcv f g (i+1) (k+1)=f 0*g (k+1)+pcv (fun j=>f (j+1)) g i k:=by
 induction i with
 | zero=>rw [pcv_succ,if_pos (Nat.zero_le _)];show 0+f 0*g (k+1)=f 0*g (k+1)+0;grind
 | succ i ih=>
  rw [pcv_succ,ih,pcv_succ (fun j=>f (j+1)),Nat.add_sub_add_right]
  by_cases h:i≤k
  ·rw [if_pos h,if_pos (by omega)];grind
  ·rw [if_neg h,if_neg (by omega)];grind
theorem pcv_more (f g:Nat→Rat) (k n:Nat):pcv f g (k+1+n) k=pcv f g (k+1) k:=by
 induction n with
 | zero=>rfl
 | succ n ih=>rw [show k+1+(n+1)=(k+1+n)+1 by omega,pcv_succ,if_neg (by omega),ih];grind
theorem pcv_zero {f:Nat→Rat} {m:Nat} (h:∀i,m≤i→f i=0) (g:Nat→Rat) (k n:Nat):pcv f g (m+n) k=pcv f g m k:=by
 induction n with
 | zero=>rfl
 | succ n ih=>
  rw [show m+(n+1)=(m+n)+1 by omega,pcv_succ,ih,h (m+n) (by omega)]
  split <;> grind
theorem cnv_pcv (f g:Nat→Rat) (k:Nat):cnv f g k=pcv f g (k+1) k:=by
 induction k generalizing f with
 | zero=>rw [pcv_succ,if_pos (Nat.le_refl _)];show f 0*g 0=0+f 0*g 0;grind
 | succ k ih=>rw [cnv_succ,ih,pcv_shift]
theorem pcv_all {f:Nat→Rat} {m:Nat} (h:∀i,m≤i→f i=0) (g:Nat→Rat) (k:Nat):pcv f g m k=cnv f g k:=by
 rw [cnv_pcv]
 rcases Nat.le_total m (k+1) with e|e
 ·obtain⟨n,hn⟩:∃n,k+1=m+n:=⟨k+1 - m,by omega⟩
  rw [hn,pcv_zero h]
 ·obtain⟨n,hn⟩:∃n,m=k+1+n:=⟨m - (k+1),by omega⟩
  rw [hn,pcv_more]
def accL (p q:List Rat) (i j:Nat):List Rat:=(List.range (p.length+q.length)).map fun k=>pcv (co p) (co q) i k+(if i≤k∧k<i+j then co p i*co q (k - i) else 0)
theorem acc_len (p q:List Rat) (i j:Nat):(accL p q i j).length=p.length+q.length:=by simp [accL]
theorem acc_get (p q:List Rat) (i j:Nat) {k:Nat} (hk:k<p.length+q.length):(accL p q i j)[k]?=some (pcv (co p) (co q) i k+(if i≤k∧k<i+j then co p i*co q (k - i) else 0)):=by
 unfold accL;rw [List.getElem?_map,List.getElem?_range hk];rfl
theorem acc_ext (p q:List Rat) (i j i' j':Nat) (h:∀k,pcv (co p) (co q) i k+(if i≤k∧k<i+j then co p i*co q (k - i) else 0)=pcv (co p) (co q) i' k+(if i'≤k∧k<i'+j' then co p i'*co q (k - i') else 0)):accL p q i j=accL p q i' j':=by
 unfold accL;exact List.map_congr_left fun k _=>h k
theorem acc_zero (p q:List Rat):accL p q 0 0=List.replicate (p.length+q.length) 0:=by
 apply List.ext_getElem?
 intro k
 rcases Nat.lt_or_ge k (p.length+q.length) with hk|hk
 ·rw [acc_get p q 0 0 hk,if_neg (by omega),List.getElem?_replicate,if_pos hk]
  show some ((0:Rat)+0)=some 0
  rw [Rat.add_zero]
 ·rw [List.getElem?_eq_none (by rw [acc_len];exact hk),List.getElem?_eq_none (by rw [List.length_replicate];exact hk)]
theorem acc_at (p q:List Rat) {i j:Nat} (hi:i<p.length) (hj:j<q.length):(accL p q i j)[i+j]?=some (pcv (co p) (co q) i (i+j)):=by
 rw [acc_get p q i j (by omega),if_neg (by omega),Rat.add_zero]
theorem acc_set (p q:List Rat) {i j:Nat} (hi:i<p.length) (hj:j<q.length):(accL p q i j).set (i+j) (pcv (co p) (co q) i (i+j)+co p i*co q j)=accL p q i (j+1):=by
 apply List.ext_getElem?
 intro k
 rcases Nat.lt_or_ge k (p.length+q.length) with hk|hk
 ·by_cases e:i+j=k
  ·subst e
   rw [List.getElem?_set_self (by rw [acc_len];exact hk),acc_get p q i (j+1) hk,if_pos (by omega),Nat.add_sub_cancel_left]
  ·rw [List.getElem?_set_ne e,acc_get p q i j hk,acc_get p q i (j+1) hk]
   by_cases h:i≤k∧k<i+j
   ·rw [if_pos h,if_pos (by omega)]
   ·rw [if_neg h,if_neg (by omega)]
 ·rw [List.getElem?_eq_none (by rw [List.length_set,acc_len];exact hk),List.getElem?_eq_none (by rw [acc_len];exact hk)]
theorem acc_next (p q:List Rat) (i:Nat):accL p q i q.length=accL p q (i+1) 0:=by
 refine acc_ext _ _ _ _ _ _ fun k=>?_;rw [pcv_succ,if_neg (c:=i+1≤k∧k<i+1+0) (by omega),Rat.add_zero]
 by_cases h:i≤k
 ·by_cases h2:k<i+q.length
  ·rw [if_pos ⟨h,h2⟩,if_pos h]
  ·rw [if_neg (by omega),if_pos h,co_ge (p:=q) (i:=k - i) (by omega)];grind
 ·rw [if_neg (by omega),if_neg h]
theorem acc_skip (p q:List Rat) (i:Nat) (h0:co p i=0):accL p q i 0=accL p q (i+1) 0:=by
 refine acc_ext _ _ _ _ _ _ fun k=>?_;rw [pcv_succ,if_neg (c:=i+1≤k∧k<i+1+0) (by omega),if_neg (c:=i≤k∧k<i+0) (by omega),h0]
 split <;> grind
def mulF (p q:List Rat):List Rat:=trimF (mulR p q)
theorem mulF_acc (p q:List Rat):trimF (accL p q p.length 0)=mulF p q:=trim_co fun k=>by
 rw [co_mulR]
 rcases Nat.lt_or_ge k (p.length+q.length) with hk|hk
 ·show ((accL p q p.length 0)[k]?).getD 0=_
  rw [acc_get p q _ 0 hk,if_neg (by omega),Rat.add_zero];exact pcv_all (fun i hi=>co_ge hi) _ _
 ·rw [co_ge (by rw [acc_len];exact hk),←pcv_all (m:=p.length) (fun i hi=>co_ge hi)]
  have h:∀n,n≤p.length→pcv (co p) (co q) n k=0:=by
   intro n
   induction n with
   | zero=>intro _;rfl
   | succ n ih=>
    intro hn;rw [pcv_succ,ih (by omega),co_ge (p:=q) (i:=k - n) (by omega)]
    split <;> grind
  exact(h _ (Nat.le_refl _)).symm
theorem bq_co {M:Nat} {p:List Rat} (hM:0<M) (h:∀x ∈ p,Bq M x) (i:Nat):Bq M (co p i):=by
 rcases Nat.lt_or_ge i p.length with hi|hi
 ·have e:p[i]?=some (co p i):=by unfold co;rw [List.getElem?_eq_getElem hi];rfl
  exact h _ (List.mem_of_getElem? e)
 ·rw [co_ge hi];exact bq_zero M hM
theorem pcv_bq {M:Nat} {f g:Nat→Rat} (hf:∀i,Bq M (f i)) (hg:∀i,Bq M (g i)) (i k:Nat):Bq (i*(M+M+1)+1) (pcv f g i k):=by
 induction i with
 | zero=>exact bq_zero _ (by omega)
 | succ i ih=>
  rw [pcv_succ]
  split
  ·exact(ih.add ((hf i).mul (hg (k - i)))).mono (by rw [Nat.succ_mul];omega)
  ·rw [Rat.add_zero];exact ih.mono (by rw [Nat.succ_mul];omega)
end Go.Proofs.YtaaoleakkaloeaaGreatDoor
set_option linter.unusedVariables false
set_option maxRecDepth 100000
set_option maxHeartbeats 64000000
namespace Go.Proofs.YtaaoleakkaloeaaGreatDoor
open Go.RowKit
def zrw (n:Nat):Array Value:=madeCells #[.bool false,.slice none 0 0,.slice none 0 0] (n*3)
theorem mk_nums (n:Nat) (z:Int) (hz:z=(n:Int)) (hn:n≤1000000) (w:World):(Instr.makeSlice 25 (.int .i64 z) (.int .i64 z)).run Tryz.prog w=.ok (.slice (some ⟨w.heap.size,0,none⟩) n n) (w.alloc (.cells (zrw n) 36)):=by
 subst hz;obtain⟨i,hi,h1,h2,h3⟩:=info_parts info_num;have h:=run_make (P:=Tryz.prog) w 25 36 i _ Tryz.underlying25 hi h1 .i64 .i64 (n:Int) (n:Int) (by omega) (Int.le_refl _) (by rw [h3];omega) (by omega);rw [h,h2]
 rfl
theorem zrw_get (n i:Nat) (hi:i<n):(zrw n)[i*3]?=some (.bool false)∧(zrw n)[i*3+1]?=some (.slice none 0 0)∧(zrw n)[i*3+2]?=some (.slice none 0 0):=by
 have key:∀r,r<3→(zrw n)[i*3+r]?=some ((#[Value.bool false,Value.slice none 0 0,Value.slice none 0 0]:Array Value)[(i*3+r) % 3]!):=fun r hr=>by
  unfold zrw madeCells;rw [Array.getElem?_map,Array.getElem?_range,if_pos (by omega)]
  rfl
 refine⟨?_,?_,?_⟩
 ·have h:=key 0 (by decide);rw [show (i*3+0) % 3=0 by omega] at h;exact h
 ·have h:=key 1 (by decide);rw [show (i*3+1) % 3=1 by omega] at h;exact h
 ·have h:=key 2 (by decide);rw [show (i*3+2) % 3=2 by omega] at h;exact h
theorem plo_new (w:World) (n:Nat) (hn:n≤1000000):PlO (w.alloc (.cells (zrw n) 36)) w.heap.size (.slice (some ⟨w.heap.size,0,none⟩) n n) (List.replicate n 0):=by
 have hr:=heap_alloc_new w (.cells (zrw n) 36);refine⟨n,zrw n,by rw [List.length_replicate],hr,by rw [List.length_replicate];exact Nat.le_refl _,by unfold maxLen;omega,size_madeCells _ _,fun i q hq=>?_⟩;rw [List.getElem?_replicate] at hq
 split at hq
 ·rename_i hi
  obtain rfl:(0:Rat)=q:=Option.some.inj hq;obtain⟨z0,z1,z2⟩:=zrw_get n i hi;exact⟨_,_,_,_,_,_,_,by rw [cell_of_row _ _ _ _ _ _ hr];exact z0,by rw [cell_of_row _ _ _ _ _ _ hr];exact z1,by rw [cell_of_row _ _ _ _ _ _ hr];exact z2,Nm.zero _⟩
 ·cases hq
theorem PlO.mono {w w':World} {g:Nat} {v:Value} {l:List Rat} (h:PlO w g v l) (k:Ext w w'):PlO w' g v l:=by
 obtain⟨cp,cur,e,hh,h1,h2,h3,h4⟩:=h;exact⟨cp,cur,e,(k.block _ (lt_of_block hh)).trans hh,h1,h2,h3,fun i r hr=>(h4 i r hr).mono k⟩
theorem mul_p (M:Nat) (hM:0<M) (vp vq:Value) (p q:List Rat) (hlp:p.length≤100000) (hlq:q.length≤100000) (hK:p.length*(M+M+1)+1≤1099511627776) (w:World) (hp:Pl w vp p) (hq:Pl w vq q) (hbp:∀x ∈ p,Bq M x) (hbq:∀x ∈ q,Bq M x):Calls Tryz.prog 56 #[vp,vq] w fun e w'=>∃v',e=.returned v'∧PlN w.heap.size w' v' (mulF p q)∧Ext w w':=by
 obtain⟨A,cap,rfl,hc,hA⟩:=id hp;obtain⟨C,cap2,rfl,hc2,hC⟩:=id hq;obtain⟨m,hm⟩:∃m,p.length=m:=⟨_,rfl⟩;obtain⟨n,hn⟩:∃n,q.length=n:=⟨_,rfl⟩;rw [hm,hn]
 have q3:IntKind.i64.wrap ((m:Int)+(n:Int))=((m+n:Nat):Int):=by
  rw [show (m:Int)+(n:Int)=((m+n:Nat):Int) by omega];exact IntWalk.i64_in _ (by omega)
 have qmk:=mk_nums (m+n) ((m+n:Nat):Int) rfl (by omega) w;have qmk2:=mk_nums (m+n) ((m:Int)+(n:Int)) (by omega) (by omega) w;have PO1:=ZZ (plo_new w (m+n) (by omega));have HMM:=ZZ hm;have HNN:=ZZ hn;have HLP:=ZZ hlp;have HLQ:=ZZ hlq;have HAA:=ZZ hA;have HCC:=ZZ hC;have HBP:=ZZ hbp;have HBQ:=ZZ hbq;have HM0:=ZZ hM;have HK:=ZZ hK
 have HMK:=ZZ (show p.length≠0→M+M≤p.length*(M+M+1)+1 from fun h=>by
  have:1*(M+M+1)≤p.length*(M+M+1):=Nat.mul_le_mul_right _ (by omega)
  omega)
 clear hp hq hlp hlq hm hn hA hC hc hc2 hbp hbq hM hK
 go_enter Tryz.func56,Tryz.ntmps56
 go_upto_region 2 with (fail)
 have E1:=ZZ (ac w (.cells (zrw (m+n)) 36));generalize World.alloc w (.cells (zrw (m+n)) _)=W1 at *;obtain⟨g,hg⟩:∃g,w.heap.size=g:=⟨_,rfl⟩;have PO1:=ZZ (show PlO W1 g (.slice (some ⟨g,0,none⟩) (m+n) (m+n)) (List.replicate (m+n) 0) from hg ▸ PO1.out);have HG:=ZZ hg;rw [hg];clear hg;go_wp2_with fail
 go_loopg [18] m (fun k u wr=>∃i,Hid (i+k=m)∧u=.int .i64 (i:Int)∧Hid (PlO wr g (.slice (some ⟨g,0,none⟩) (m+n) (m+n)) (accL p q i 0))∧Hid (Ext w wr))
 case atStart=>exact⟨0,ZZ (Nat.zero_add _),rfl,ZZ (by rw [acc_zero,HMM.out,HNN.out];exact PO1.out),E1⟩
 case round=>
  obtain⟨i,HI,rfl,HO,HE⟩:=hrel;rename World=>WR
  rcases Nat.eq_zero_or_pos gk with hz|hz
  ·subst hz
   obtain rfl:i=m:=HI.out;have q1:decide ((i:Int)<(i:Int))=false:=decide_eq_false (Int.lt_irrefl _);go_wp2_with fail;refine(trim_q _ (accL p q i 0) (by rw [acc_len,HMM.out,HNN.out];have h1:=HLP.out;have h2:=HLQ.out;rw [HMM.out] at h1;rw [HNN.out] at h2;omega) _ (by have h:=HO.out.pl;exact h)).mono ?_;rintro e w' ⟨v',rfl,hn,kk⟩;rw [show trimF (accL p q i 0)=mulF p q by rw [←mulF_acc p q,HMM.out]] at hn;have HN:=ZZ hn;have HK2:=ZZ kk;clear hn kk;go_wp2_with fail;go_ret;refine⟨_,rfl,?_,al HE.out HK2.out⟩
   rcases HN.out with hn|⟨g,hg,hn⟩
   ·exact .inl hn
   ·refine .inr ⟨g,?_,hn⟩
    have h1:=HE.out.size;have h2:=HG.out;omega
  ·have him:i<m:=by have:=HI.out;omega
   have hip:i<p.length:=by rw [HMM.out];exact him
   have q1:decide ((i:Int)<(m:Int))=true:=decide_eq_true (by omega);have q4:(i:Int)<(m:Int):=by omega
   have q5:(0:Int)≤(i:Int):=by omega
   rcases HAA.out with ⟨-,h5⟩|⟨b,o,rfl,ht⟩
   ·rw [h5] at hip;simp at hip
   have hp2:p[i]?=some (co p i):=by unfold co;rw [List.getElem?_eq_getElem hip];rfl
   obtain⟨s1,A1,k1,ca1,B1,l1,cb1,c0,c1,c2,hn1⟩:=(ht i _ hp2).mono HE.out;obtain⟨c,hcs⟩:∃c,(co p i).num.sign=c:=⟨_,rfl⟩;have HCS:=ZZ hcs;have BA:=ZZ (HBP.out (co p i) (List.mem_of_getElem? hp2));have HA1:=ZZ (hn1.mono (ac WR (.cells #[.bool s1,.slice A1 k1 ca1,.slice B1 l1 cb1] 36)));have EA:=ZZ (ac WR (.cells #[.bool s1,.slice A1 k1 ca1,.slice B1 l1 cb1] 36));have RA:=ZZ (heap_alloc_new WR (.cells #[.bool s1,.slice A1 k1 ca1,.slice B1 l1 cb1] 36));have HZ:=ZZ hz;have HIP:=ZZ hip;clear hn1 hp2 ht hcs hz hip
   go_upto_region 5 with (fail)
   generalize World.alloc WR (.cells #[.bool s1,.slice A1 k1 ca1,.slice B1 l1 cb1] _)=W3 at *;have HGA:=ZZ (show WR.heap.size≠g from fun e=>by obtain⟨cp,cur,-,hh,-⟩:=HO.out;have:=lt_of_block hh;omega);generalize WR.heap.size=ga at *;obtain⟨a0,a1,a2,-⟩:=aj RA.out;go_wp2_with fail;refine(sign_q' _ (co p i) _ c HCS.out HA1.out).mono ?_;rintro e w4 ⟨rfl,k4⟩;have K4:=ZZ k4;clear c0 c1 c2 a0 a1 a2 k4
   by_cases hc0:c=0
   ·subst hc0
    have z0:((0:Int) == 0)=true:=rfl;have HZ0:=ZZ ((num_zero_iff HCS.out).1 rfl);go_wp2_with fail
    go_roundg (gk - 1)
    case measure=>have:=HZ.out;omega
    case rel=>exact⟨i+1,ZZ (by have:=HI.out;have:=HZ.out;omega),by have h1:=HLP.out;have h2:=HIP.out;rw [IntWalk.wrap64_in _ ⟨by omega,by omega⟩];rfl,ZZ (by rw [←acc_skip p q i HZ0.out];exact HO.out.mono (al EA.out K4.out)),ZZ (al HE.out (al EA.out K4.out))⟩
   ·have z0:(c == 0)=false:=beq_eq_false_iff_ne.2 hc0
    clear hc0;have PW:=ZZ (HO.out.mono (al EA.out K4.out));have EW4:=ZZ (al HE.out (al EA.out K4.out));have NA0:=ZZ (HA1.out.mono K4.out);have RA4:=ZZ ((K4.out.block _ (lt_of_block RA.out)).trans RA.out);go_wp2_with fail;obtain⟨ko,rfl⟩:∃ko,ko=gk:=⟨_,rfl⟩
    go_loopg [28] n (fun k u wr=>∃j,Hid (j+k=n)∧u=.int .i64 (j:Int)∧Hid (PlO wr g (.slice (some ⟨g,0,none⟩) (m+n) (m+n)) (accL p q i j))∧Hid (Ext w wr)∧Hid (wr.heap[ga]?=some (.cells #[.bool s1,.slice A1 k1 ca1,.slice B1 l1 cb1] 36 (0,0)))∧Hid (Nm wr (.agg #[.bool s1,.slice A1 k1 ca1,.slice B1 l1 cb1]) (co p i)))
    case atStart=>exact⟨0,ZZ (Nat.zero_add _),rfl,PW,EW4,RA4,NA0⟩
    case round=>
     obtain⟨j,HJ,rfl,HO2,HE2,RG,NA⟩:=hrel;rename World=>WI
     rcases Nat.eq_zero_or_pos gk with hz2|hz2
     ·subst hz2
      obtain rfl:j=n:=HJ.out;have q1n:decide ((j:Int)<(j:Int))=false:=decide_eq_false (Int.lt_irrefl _);go_wp2_with fail
      go_roundg (ko - 1)
      case measure=>have:=HZ.out;omega
      case rel=>exact⟨i+1,ZZ (by have:=HI.out;have:=HZ.out;omega),by have h1:=HLP.out;have h2:=HIP.out;rw [IntWalk.wrap64_in _ ⟨by omega,by omega⟩];rfl,ZZ (by rw [←acc_next p q i,HNN.out];exact HO2.out),HE2⟩
     ·have hjn:j<n:=by have:=HJ.out;omega
      have hjq:j<q.length:=by rw [HNN.out];exact hjn
      have q1n:decide ((j:Int)<(n:Int))=true:=decide_eq_true (by omega);have q1n':decide (j<n)=true:=decide_eq_true hjn;have q4n:(j:Int)<(n:Int):=by omega
      have q5n:(0:Int)≤(j:Int):=by omega
      have q6:IntKind.i64.wrap ((i:Int)+(j:Int))=(i:Int)+(j:Int):=by
       have h1:=HLP.out;have h2:=HLQ.out;have h3:=HIP.out;exact IntWalk.i64_in _ (by omega)
      have q7:(i:Int)+(j:Int)<(m:Int)+(n:Int):=by have h1:=HMM.out;have h2:=HIP.out;omega
      have q8:(0:Int)≤(i:Int)+(j:Int):=by omega
      have q9:((i:Int)+(j:Int)).toNat=i+j:=by omega
      rcases HCC.out with ⟨-,h5⟩|⟨b2,o2,rfl,ht2⟩
      ·rw [h5] at hjq;simp at hjq
      have hq2:q[j]?=some (co q j):=by unfold co;rw [List.getElem?_eq_getElem hjq];rfl
      obtain⟨s2,A2,k2,ca2,B2,l2,cb2,c0,c1,c2,hn2⟩:=(ht2 j _ hq2).mono HE2.out;have BQ2:=ZZ (HBQ.out (co q j) (List.mem_of_getElem? hq2));have BQ3:=ZZ (show Bq (p.length*(M+M+1)+1) (pcv (co p) (co q) i (i+j)) from (pcv_bq (bq_co HM0.out HBP.out) (bq_co HM0.out HBQ.out) i (i+j)).mono (Nat.add_le_add_right (Nat.mul_le_mul_right _ (Nat.le_of_lt HIP.out)) 1));have E6:=ZZ (ac WI (.cells #[.bool s2,.slice A2 k2 ca2,.slice B2 l2 cb2] 36));have N2:=ZZ (hn2.mono (ac WI (.cells #[.bool s2,.slice A2 k2 ca2,.slice B2 l2 cb2] 36)));have R7:=ZZ (heap_alloc_new WI (.cells #[.bool s2,.slice A2 k2 ca2,.slice B2 l2 cb2] 36));have HZ2:=ZZ hz2;have HJQ:=ZZ hjq;clear hn2 hq2 ht2 hz2 hjq
      go_upto_region 9 with (fail)
      generalize World.alloc WI (.cells #[.bool s2,.slice A2 k2 ca2,.slice B2 l2 cb2] _)=W6 at *;generalize WI.heap.size=g7 at *;have PO:=ZZ (show ∀W,Ext W6 W→PlO W g (.slice (some ⟨g,0,none⟩) (m+n) (m+n)) (accL p q i j) from fun W k=>HO2.out.mono (al E6.out k));obtain⟨-,-,-,-,-,-,-,h4⟩:=PO.out W6 (af _);obtain⟨s3,A3,k3,ca3,B3,l3,cb3,d0,d1,d2,hn3⟩:=h4 (i+j) _ (acc_at p q HIP.out HJQ.out);have N3:=ZZ hn3
      have HC:=ZZ (show ∀W,Ext W6 W→W.cell? ⟨g,(i+j)*3,none⟩=some (.bool s3)∧W.cell? ⟨g,(i+j)*3+1,none⟩=some (.slice A3 k3 ca3)∧W.cell? ⟨g,(i+j)*3+2,none⟩=some (.slice B3 l3 cb3)∧W.cell? ⟨ga,0,none⟩=some (.bool s1)∧W.cell? ⟨ga,1,none⟩=some (.slice A1 k1 ca1)∧W.cell? ⟨ga,2,none⟩=some (.slice B1 l1 cb1)∧W.cell? ⟨g7,0,none⟩=some (.bool s2)∧W.cell? ⟨g7,1,none⟩=some (.slice A2 k2 ca2)∧W.cell? ⟨g7,2,none⟩=some (.slice B2 l2 cb2) from fun W k=>by
       obtain⟨y0,y1,y2,-⟩:=aj ((k.block _ (lt_of_block R7.out)).trans R7.out);have kk:=al E6.out k;obtain⟨x0,x1,x2,-⟩:=aj ((kk.block _ (lt_of_block RG.out)).trans RG.out);exact⟨ao k d0,ao k d1,ao k d2,x0,x1,x2,y0,y1,y2⟩)
      clear c0 c1 c2 d0 d1 d2 hn3 h4;have hun:undef=.tuple #[]:=rfl;have HK1:=HK;have HM1:=ZZ (show M≤1099511627776 from by have h1:=HMK.out;have h2:=HIP.out;have h3:=HK.out;have h4:=h1 (by omega);omega);refine wp_region_noPanic ?_;refine region_L (S:=fun W=>W.cell? ⟨g,(i+j)*3,none⟩=some (.bool s3)∧W.cell? ⟨g,(i+j)*3+1,none⟩=some (.slice A3 k3 ca3)∧W.cell? ⟨g,(i+j)*3+2,none⟩=some (.slice B3 l3 cb3)∧W.cell? ⟨ga,0,none⟩=some (.bool s1)∧W.cell? ⟨ga,1,none⟩=some (.slice A1 k1 ca1)∧W.cell? ⟨ga,2,none⟩=some (.slice B1 l1 cb1)∧W.cell? ⟨g7,0,none⟩=some (.bool s2)∧W.cell? ⟨g7,1,none⟩=some (.slice A2 k2 ca2)∧W.cell? ⟨g7,2,none⟩=some (.slice B2 l2 cb2)) 15 (by kernel_rfl) (HC.out _ (ae _)) (fun hHeld=>?_);refine take_b 0 33 ?_;refine take_b 1 34 ?_;refine take_b 2 35 ?_;refine take_b 3 36 ?_;refine take_b 4 37 ?_;refine take_b 5 38 ?_;refine take_b 6 39 ?_;refine take_b 7 40 ?_;refine take_b 8 41 ?_;refine take_b 9 42 ?_;refine take_b 10 43 ?_;refine take_b 11 44 ?_;refine call_L (i:=12) 45 rfl rfl (by kernel_rfl) (fun K hK=>?_)
      go_simp
      go_at_call 51
      refine(mul_q M HM1.out _ _ (co p i) (co q j) _ (NA.out.mono (al E6.out (ae _))) (N2.out.mono (ae _)) BA.out BQ2.out).mono ?_;rintro e w4 ⟨v4,rfl,h4,kk4⟩;obtain⟨s4,A4,k4,ca4,B4,l4,cb4,rfl⟩:=h4.form2;have H4:=ZZ h4;have hx1:=ZZ (show Ext W6 w4 from al (ae _) kk4);clear h4 kk4
      try go_wp2_with fail
      refine hK.out _ _ (HC.out _ hx1.out) (fun hHeld=>?_);clear hK K
      try simp only [Act.put,lyA,lyB,lyC]
      refine call_L (i:=13) 46 rfl rfl (by kernel_rfl) (fun K hK=>?_)
      go_simp
      go_at_call 50
      refine(add_q (p.length*(M+M+1)+1) HK.out _ _ (pcv (co p) (co q) i (i+j)) (co p i*co q j) _ (N3.out.mono hx1.out) H4.out BQ3.out ((BA.out.mul BQ2.out).mono (HMK.out (by have:=HIP.out;omega)))).mono ?_;rintro e w5 ⟨v5,rfl,h5,kk5⟩;obtain⟨s5,A5,k5,ca5,B5,l5,cb5,rfl⟩:=h5.form2;have H5:=ZZ h5;have hx2:=ZZ (al hx1.out kk5);clear h5 kk5
      try go_wp2_with fail
      refine hK.out _ _ (HC.out _ hx2.out) (fun hHeld=>?_);clear hK K
      try simp only [Act.put,lyA,lyB,lyC]
      refine take_b 14 47 ?_;refine last_L rfl (by kernel_rfl) (by kernel_rfl) (fun K hK=>?_);have hp5:=PO.out w5 hx2.out;obtain⟨-,cur5,-,hh5,-⟩:=id hp5;have zf0:=frozen_row hh5 ((i+j)*3);have zf1:=frozen_row hh5 ((i+j)*3+1);have zf2:=frozen_row hh5 ((i+j)*3+2);obtain⟨z0,z1,z2,-⟩:=HC.out w5 hx2.out;clear hp5 hh5
      go_simp
      refine hK.out _ _ ?_;clear hK K
      try simp only [Act.put,lyA,lyB,lyC]
      refine NoPanic.normal ?_;have HP7:=ZZ (PlO.set (PO.out w5 hx2.out) (i:=i+j) (by rw [acc_len];have h1:=HIP.out;have h2:=HJQ.out;omega) H5.out);have E7:=ZZ (show Ext w (put3at w5 g ((i+j)*3) (.bool s5) (.slice A5 k5 ca5) (.slice B5 l5 cb5)) from by have hgw:w.heap.size≤g:=Nat.le_of_eq HG.out;exact(((al HE2.out (al E6.out hx2.out)).setCell hgw _).setCell hgw _).setCell hgw _);have PX:=PO.out w5 hx2.out
      have RG7:=ZZ (show (put3at w5 g ((i+j)*3) (.bool s5) (.slice A5 k5 ca5) (.slice B5 l5 cb5)).heap[ga]?=some (.cells #[.bool s1,.slice A1 k1 ca1,.slice B1 l1 cb1] 36 (0,0)) from by
       have kk:=al E6.out hx2.out;have h1:=(kk.block _ (lt_of_block RG.out)).trans RG.out;unfold put3at;rw [Below.heap_setCell _ _ _ _ HGA.out,Below.heap_setCell _ _ _ _ HGA.out,Below.heap_setCell _ _ _ _ HGA.out];exact h1)
      have NA7:=ZZ (Nm.put3at (NA.out.mono (al E6.out hx2.out)) PX (i:=i+j) (by rw [acc_len];have h1:=HIP.out;have h2:=HJQ.out;omega) (.bool s5) (.slice A5 k5 ca5) (.slice B5 l5 cb5));clear PX;go_wp2_with fail
      go_roundg (gk - 1)
      case measure=>have:=HZ2.out;omega
      case rel=>
       refine⟨j+1,ZZ (by have:=HJ.out;have:=HZ2.out;omega),by have h1:=HLQ.out;have h2:=HJQ.out;rw [IntWalk.wrap64_in _ ⟨by omega,by omega⟩];rfl,ZZ ?_,E7,RG7,NA7⟩;have h8:=HP7.out;rw [acc_set p q HIP.out HJQ.out] at h8;exact h8
end Go.Proofs.YtaaoleakkaloeaaGreatDoor
