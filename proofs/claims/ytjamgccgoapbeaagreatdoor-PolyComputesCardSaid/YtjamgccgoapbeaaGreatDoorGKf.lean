/- Products of the reference's polynomials. Printed by gen_ke.py. Values of the reference's polynomials. Printed by gen_kf.py. -/
import Derived.Test.YtjamgccgoapbeaaGreatDoorGSk
import Derived.Laws.MakeOwn
import Derived.Test.YtjamgccgoapbeaaGreatDoorGYz
set_option linter.unusedVariables false
set_option maxRecDepth 100000
set_option maxHeartbeats 64000000
namespace Go.Proofs.YtjamgccgoapbeaaGreatDoor
open Go Go.RowKit
set_option linter.unusedSimpArgs false
def zrwR (n:Nat):Array Value:=madeCells #[.int .i64 0,.slice none 0 0,.slice none 0 0] (n*3)
theorem mk_refs (n:Nat) (z:Int) (hz:z=(n:Int)) (hn:n≤1000000) (w:World):(Instr.makeSlice 57 (.int .i64 z) (.int .i64 z)).run Tryz.prog w=.ok (.slice (some ⟨w.heap.size,0,none⟩) n n) (w.alloc (.cells (zrwR n) 62)):=by
 subst hz;obtain⟨i,hi,h1,h2,h3⟩:=elRf.inf;have h:=run_make (P:=Tryz.prog) w 57 62 i _ elRf.und hi h1 .i64 .i64 (n:Int) (n:Int) (by omega) (Int.le_refl _) (by rw [h3];omega) (by omega);rw [h,h2]
 rfl
theorem zrwR_get (n i:Nat) (hi:i<n):(zrwR n)[i*3]?=some (.int .i64 0)∧(zrwR n)[i*3+1]?=some (.slice none 0 0)∧(zrwR n)[i*3+2]?=some (.slice none 0 0):=by
 have key:∀r,r<3→(zrwR n)[i*3+r]?=some ((#[Value.int .i64 0,Value.slice none 0 0,Value.slice none 0 0]:Array Value)[(i*3+r) % 3]!):=fun r hr=>by
  unfold zrwR madeCells;rw [Array.getElem?_map,Array.getElem?_range,if_pos (by omega)]
  rfl
 refine⟨?_,?_,?_⟩
 ·have h:=key 0 (by decide);rw [show (i*3+0) % 3=0 by omega] at h;exact h
 ·have h:=key 1 (by decide);rw [show (i*3+1) % 3=1 by omega] at h;exact h
 ·have h:=key 2 (by decide);rw [show (i*3+2) % 3=2 by omega] at h;exact h
def PlQ (W:World) (g:Nat) (l:List Rat):Prop:=∃cur,W.heap[g]?=some (.cells cur 62 (0,0))∧cur.size=l.length*3∧∀i q,l[i]?=some q→∃s A k ca C m cb,W.cell? ⟨g,i*3,none⟩=some (.int .i64 s)∧W.cell? ⟨g,i*3+1,none⟩=some (.slice A k ca)∧W.cell? ⟨g,i*3+2,none⟩=some (.slice C m cb)∧Nr W (.agg #[.int .i64 s,.slice A k ca,.slice C m cb]) q∧BlN (·≠g) (.agg #[.int .i64 s,.slice A k ca,.slice C m cb])
theorem PlQ.mono {W W':World} {g:Nat} {l:List Rat} (h:PlQ W g l) (k:Ext W W'):PlQ W' g l:=by
 obtain⟨cur,h1,h2,h3⟩:=h;refine⟨cur,(k.block _ (lt_of_block h1)).trans h1,h2,fun i q hq=>?_⟩;obtain⟨s,A,n,ca,C,m,cb,c0,c1,c2,hn,hb⟩:=h3 i q hq;exact⟨s,A,n,ca,C,m,cb,ar k c0,ar k c1,ar k c2,hn.mono k,hb⟩
theorem PlQ.pl {W:World} {g n:Nat} {l:List Rat} (h:PlQ W g l) (hn:l.length=n):PlR W (.slice (some ⟨g,0,none⟩) n n) l:=by
 obtain⟨cur,h1,h2,h3⟩:=h;subst hn;refine⟨_,_,rfl,Nat.le_refl _,.inr ⟨g,0,rfl,fun i q hq=>?_⟩⟩;obtain⟨s,A,k,ca,C,m,cb,c0,c1,c2,hn,-⟩:=h3 i q hq;rw [Nat.zero_add];exact⟨s,A,k,ca,C,m,cb,c0,c1,c2,hn⟩
theorem plq_new (w:World) (n:Nat):PlQ (w.alloc (.cells (zrwR n) 62)) w.heap.size (List.replicate n 0):=by
 have hr:=heap_alloc_new w (.cells (zrwR n) 62);refine⟨zrwR n,hr,by rw [List.length_replicate];exact size_madeCells _ _,fun i q hq=>?_⟩;rw [List.getElem?_replicate] at hq
 split at hq
 ·rename_i hi
  obtain rfl:(0:Rat)=q:=Option.some.inj hq;obtain⟨z0,z1,z2⟩:=zrwR_get n i hi;exact⟨_,_,_,_,_,_,_,by rw [cell_of_row _ _ _ _ _ _ hr];exact z0,by rw [cell_of_row _ _ _ _ _ _ hr];exact z1,by rw [cell_of_row _ _ _ _ _ _ hr];exact z2,Nr.zero _,bln_mk blc_none blc_none⟩
 ·cases hq
theorem put3at_heap {W:World} {g j b:Nat} (hb:b≠g) (x y z:Value):(put3at W g j x y z).heap[b]?=W.heap[b]?:=by
 unfold put3at;rw [Below.heap_setCell _ _ _ _ hb,Below.heap_setCell _ _ _ _ hb,Below.heap_setCell _ _ _ _ hb]
theorem PlQ.set {W:World} {g i:Nat} {l:List Rat} {q:Rat} {s:Int} {A C:Option Addr} {k ca m cb:Nat} (h:PlQ W g l) (hi:i<l.length) (hq:Nr W (.agg #[.int .i64 s,.slice A k ca,.slice C m cb]) q) (hb:BlN (·≠g) (.agg #[.int .i64 s,.slice A k ca,.slice C m cb])):PlQ (put3at W g (i*3) (.int .i64 s) (.slice A k ca) (.slice C m cb)) g (l.set i q):=by
 obtain⟨cur,hh,h3,h4⟩:=id h;have hsz:i*3+2<cur.size:=by rw [h3];omega
 refine⟨_,put3at_row hh _ _ _,by rw [List.length_set];simpa using h3,fun j r hr=>?_⟩
 by_cases hj:i=j
 ·subst hj
  rw [List.getElem?_set_self hi] at hr;obtain rfl:q=r:=Option.some.inj hr;obtain⟨n0,n1,n2⟩:=put3at_new hh hsz (.int .i64 s) (.slice A k ca) (.slice C m cb);exact⟨s,A,k,ca,C,m,cb,n0,n1,n2,hq.keepB hb (fun b hb=>put3at_heap hb _ _ _),hb⟩
 ·rw [List.getElem?_set_ne hj] at hr
  obtain⟨s1,A1,k1,ca1,C1,m1,cb1,c0,c1,c2,hn,hb1⟩:=h4 j r hr;exact⟨s1,A1,k1,ca1,C1,m1,cb1,by rw [put3at_cell hh _ _ _ g _ (.inr (by omega))];exact c0,by rw [put3at_cell hh _ _ _ g _ (.inr (by omega))];exact c1,by rw [put3at_cell hh _ _ _ g _ (.inr (by omega))];exact c2,hn.keepB hb1 (fun b hb=>put3at_heap hb _ _ _),hb1⟩
theorem pmul_n (M:Nat) (hM:0<M) (vp vq:Value) (p q:List Rat) (hlp:p.length≤100000) (hlq:q.length≤100000) (hK:p.length*(M+M+1)+1≤134217728) (hMM:M+M≤p.length*(M+M+1)+1∨p.length=0) (w:World) (hp:PlR w vp p) (hq:PlR w vq q) (hbp:∀x ∈ p,Bq M x) (hbq:∀x ∈ q,Bq M x):Calls Tryz.prog 33 #[vp,vq] w fun e w'=>∃v',e=.returned v'∧PlR w' v' (mulF p q)∧Ext w w':=by
 obtain⟨m,hm⟩:∃m,p.length=m:=⟨_,rfl⟩;obtain⟨n,hn⟩:∃n,q.length=n:=⟨_,rfl⟩;obtain⟨A,ca,rfl⟩:=hp.form;obtain⟨C,cc,rfl⟩:=hq.form;rw [hm] at hp ⊢;rw [hn] at hq ⊢
 have q3:IntKind.i64.wrap ((m:Int)+(n:Int))=((m+n:Nat):Int):=by
  rw [show (m:Int)+(n:Int)=((m+n:Nat):Int) by omega];exact IntWalk.i64_in _ (by omega)
 have qmk:=mk_refs (m+n) ((m+n:Nat):Int) rfl (by omega) w;have qmk2:=mk_refs (m+n) ((m:Int)+(n:Int)) (by omega) (by omega) w;have PO1:=ZZ (plq_new w (m+n));have HMM:=ZZ hm;have HNN:=ZZ hn;have HLP:=ZZ hlp;have HLQ:=ZZ hlq;have HP:=ZZ hp;have HQ:=ZZ hq;have HBP:=ZZ hbp;have HBQ:=ZZ hbq;have HM0:=ZZ hM;have HK:=ZZ hK;have HMMK:=ZZ hMM;clear hp hq hlp hlq hm hn hbp hbq hM hK hMM
 go_enter Tryz.func33,Tryz.ntmps33
 go_upto_region 2 with (fail)
 have E1:=ZZ (ab w (.cells (zrwR (m+n)) 62));generalize World.alloc w (.cells (zrwR (m+n)) _)=W1 at *;obtain⟨g,hg⟩:∃g,w.heap.size=g:=⟨_,rfl⟩;have PO1:=ZZ (show PlQ W1 g (List.replicate (m+n) 0) from hg ▸ PO1.out);have HG:=ZZ hg;rw [hg];clear hg;go_wp2_with fail
 go_loopg [6] m (fun k u wr=>∃i,Hid (i+k=m)∧u=.int .i64 (i:Int)∧Hid (PlQ wr g (accL p q i 0))∧Hid (Ext w wr))
 case atStart=>exact⟨0,ZZ (Nat.zero_add _),rfl,ZZ (by rw [acc_zero,HMM.out,HNN.out];exact PO1.out),E1⟩
 case round=>
  obtain⟨i,HI,rfl,HO,HE⟩:=hrel;rename World=>WR
  rcases Nat.eq_zero_or_pos gk with hz|hz
  ·subst hz
   obtain rfl:i=m:=HI.out;have q1:decide ((i:Int)<(i:Int))=false:=decide_eq_false (Int.lt_irrefl _);go_wp2_with fail;refine(trim_n _ (accL p q i 0) (by rw [acc_len,HMM.out,HNN.out];have h1:=HLP.out;have h2:=HLQ.out;rw [HMM.out] at h1;rw [HNN.out] at h2;omega) _ (HO.out.pl (by rw [acc_len,HMM.out,HNN.out]))).mono ?_;rintro e w' ⟨v',rfl,hn,kk⟩;rw [show trimF (accL p q i 0)=mulF p q by rw [←mulF_acc p q,HMM.out]] at hn;have HN:=ZZ hn;have HK2:=ZZ kk;clear hn kk;go_wp2_with fail;go_ret;exact⟨_,rfl,HN.out,am HE.out HK2.out⟩
  ·have him:i<m:=by have:=HI.out;omega
   have q1:decide ((i:Int)<(m:Int))=true:=decide_eq_true (by omega);have q4:(i:Int)<(m:Int):=by omega
   have q5:(0:Int)≤(i:Int):=by omega
   obtain⟨b,o,qi,rfl,hqi,htri⟩:=HP.out.at_ him;have HTI:=ZZ htri;have HQI:=ZZ (show co p i=qi by unfold co;rw [hqi];rfl);have B1q:=ZZ (HBP.out qi (List.mem_of_getElem? hqi));have HZ:=ZZ hz;have HIM:=ZZ him
   have HMK:=ZZ (show M+M≤p.length*(M+M+1)+1 from by
    rcases HMMK.out with h|h
    ·exact h
    ·have:=HMM.out;omega)
   clear hqi htri hz him;go_wp2_with fail;obtain⟨ko,rfl⟩:∃ko,ko=gk:=⟨_,rfl⟩
   go_loopg [7] n (fun k u wr=>∃j,Hid (j+k=n)∧u=.int .i64 (j:Int)∧Hid (PlQ wr g (accL p q i j))∧Hid (Ext w wr))
   case atStart=>exact⟨0,ZZ (Nat.zero_add _),rfl,HO,HE⟩
   case round=>
     obtain⟨j,HJ,rfl,HO2,HE2⟩:=hrel;rename World=>WI
     rcases Nat.eq_zero_or_pos gk with hz2|hz2
     ·subst hz2
      obtain rfl:j=n:=HJ.out;have q1n:decide ((j:Int)<(j:Int))=false:=decide_eq_false (Int.lt_irrefl _);go_wp2_with fail
      go_roundg (ko - 1)
      case measure=>have:=HZ.out;omega
      case rel=>exact⟨i+1,ZZ (by have:=HI.out;have:=HZ.out;omega),by have h1:=HLP.out;have h2:=HIM.out;have h3:=HMM.out;rw [IntWalk.wrap64_in _ ⟨by omega,by omega⟩];rfl,ZZ (by rw [←acc_next p q i,HNN.out];exact HO2.out),HE2⟩
     ·have hjn:j<n:=by have:=HJ.out;omega
      have q1n:decide ((j:Int)<(n:Int))=true:=decide_eq_true (by omega);have q1n':decide (j<n)=true:=decide_eq_true hjn;have q4n:(j:Int)<(n:Int):=by omega
      have q5n:(0:Int)≤(j:Int):=by omega
      have q6:IntKind.i64.wrap ((i:Int)+(j:Int))=(i:Int)+(j:Int):=by
       have h1:=HLP.out;have h2:=HLQ.out;have h3:=HIM.out;have h4:=HMM.out;have h5:=HNN.out;exact IntWalk.i64_in _ (by omega)
      have q7:(i:Int)+(j:Int)<(m:Int)+(n:Int):=by have h2:=HIM.out;omega
      have q8:(0:Int)≤(i:Int)+(j:Int):=by omega
      have q9:((i:Int)+(j:Int)).toNat=i+j:=by omega
      obtain⟨b2,o2,qj,rfl,hqj,htri2⟩:=HQ.out.at_ hjn;obtain⟨s1,A1,k1,ca1,B1,l1,cb1,a0,a1,a2,hn1⟩:=HTI.out.mono HE2.out;obtain⟨s2,A2,k2,ca2,B2,l2,cb2,c0,c1,c2,hn2⟩:=htri2.mono HE2.out;have hipp:i<p.length:=by rw [HMM.out];exact HIM.out
      have hjqq:j<q.length:=by rw [HNN.out];exact hjn
      obtain⟨-,-,-,h4⟩:=id HO2.out;obtain⟨s3,A3,k3,ca3,B3,l3,cb3,d0,d1,d2,hn3,hb3⟩:=h4 (i+j) _ (acc_at p q hipp hjqq);have HQJ:=ZZ (show co q j=qj by unfold co;rw [hqj];rfl);have B2q:=ZZ (HBQ.out qj (List.mem_of_getElem? hqj));have BQ3:=ZZ (show Bq (p.length*(M+M+1)+1) (pcv (co p) (co q) i (i+j)) from (pcv_bq (bq_co HM0.out HBP.out) (bq_co HM0.out HBQ.out) i (i+j)).mono (Nat.add_le_add_right (Nat.mul_le_mul_right _ (Nat.le_of_lt hipp)) 1));have N1:=ZZ hn1;have N2:=ZZ hn2;have N3:=ZZ hn3;have F3:=ZZ hb3;have HGL:=ZZ (show g<WI.heap.size from by obtain⟨cur,hh,-⟩:=HO2.out;exact lt_of_block hh);have HZ2:=ZZ hz2;have HIPP:=ZZ hipp;have HJQ:=ZZ hjqq;have HM1:=ZZ (show M≤134217728 from by have h1:=HMK.out;have h2:=HK.out;omega);have HC:=ZZ (show ∀W,Ext WI W→W.cell? ⟨g,(i+j)*3,none⟩=some (.int .i64 s3)∧W.cell? ⟨g,(i+j)*3+1,none⟩=some (.slice A3 k3 ca3)∧W.cell? ⟨g,(i+j)*3+2,none⟩=some (.slice B3 l3 cb3)∧W.cell? ⟨b,o+i*3,none⟩=some (.int .i64 s1)∧W.cell? ⟨b,o+i*3+1,none⟩=some (.slice A1 k1 ca1)∧W.cell? ⟨b,o+i*3+2,none⟩=some (.slice B1 l1 cb1)∧W.cell? ⟨b2,o2+j*3,none⟩=some (.int .i64 s2)∧W.cell? ⟨b2,o2+j*3+1,none⟩=some (.slice A2 k2 ca2)∧W.cell? ⟨b2,o2+j*3+2,none⟩=some (.slice B2 l2 cb2) from fun W k=>⟨ar k d0,ar k d1,ar k d2,ar k a0,ar k a1,ar k a2,ar k c0,ar k c1,ar k c2⟩);clear hn1 hn2 hn3 hb3 h4 htri2 hqj hz2 hipp hjqq hjn a0 a1 a2 c0 c1 c2 d0 d1 d2
      go_upto_region 8 with (fail)
      have hun:undef=.tuple #[]:=rfl;refine wp_region_noPanic ?_;refine region_L (S:=fun W=>W.cell? ⟨g,(i+j)*3,none⟩=some (.int .i64 s3)∧W.cell? ⟨g,(i+j)*3+1,none⟩=some (.slice A3 k3 ca3)∧W.cell? ⟨g,(i+j)*3+2,none⟩=some (.slice B3 l3 cb3)∧W.cell? ⟨b,o+i*3,none⟩=some (.int .i64 s1)∧W.cell? ⟨b,o+i*3+1,none⟩=some (.slice A1 k1 ca1)∧W.cell? ⟨b,o+i*3+2,none⟩=some (.slice B1 l1 cb1)∧W.cell? ⟨b2,o2+j*3,none⟩=some (.int .i64 s2)∧W.cell? ⟨b2,o2+j*3+1,none⟩=some (.slice A2 k2 ca2)∧W.cell? ⟨b2,o2+j*3+2,none⟩=some (.slice B2 l2 cb2)) 21 (by kernel_rfl) (HC.out _ (ac _)) (fun hHeld=>?_);refine take_b 0 26 ?_;refine take_b 1 27 ?_;refine take_b 2 28 ?_;refine take_b 3 29 ?_;refine take_b 4 30 ?_;refine take_b 5 31 ?_;refine take_b 6 32 ?_;refine take_b 7 33 ?_;refine take_b 8 34 ?_;refine take_b 9 35 ?_;refine take_b 10 36 ?_;refine take_b 11 37 ?_;refine take_b 12 38 ?_;refine take_b 13 39 ?_;refine take_b 14 40 ?_;refine take_b 15 41 ?_;refine take_b 16 42 ?_;refine take_b 17 43 ?_;refine call_L (i:=18) 44 rfl rfl (by kernel_rfl) (fun K hK=>?_)
      go_simp
      go_at_call 90
      refine(mul_f M HM1.out _ _ qi qj _ (N1.out.mono (ac _)) (N2.out.mono (ac _)) B1q.out B2q.out).mono ?_;rintro e w4 ⟨v4,rfl,h4,kk4,f4⟩;have H4:=ZZ h4;have hx1:=ZZ (show Ext WI w4 from am (ac _) kk4);have F4:=ZZ (f4.bln (C:=(·≠g)) (fun b hb e=>by subst e;exact Nat.lt_irrefl _ (Nat.lt_of_lt_of_le HGL.out hb)));clear h4 kk4 f4
      try go_wp2_with fail
      refine hK.out _ _ (HC.out _ hx1.out) (fun hHeld=>?_);clear hK K
      try simp only [Act.put,lyA,lyB,lyC]
      refine call_L (i:=19) 45 rfl rfl (by kernel_rfl) (fun K hK=>?_)
      go_simp
      go_at_call 87
      refine(add_f (p.length*(M+M+1)+1) HK.out _ _ (pcv (co p) (co q) i (i+j)) (qi*qj) _ (N3.out.mono hx1.out) H4.out BQ3.out ((B1q.out.mul B2q.out).mono HMK.out)).mono ?_;rintro e w5 ⟨v5,rfl,h5,kk5,f5⟩;obtain⟨s5,A5,k5,ca5,B5,l5,cb5,rfl,-⟩:=h5.form;have H5:=ZZ h5;have hx2:=ZZ (am hx1.out kk5);have F5:=ZZ (f5 (·≠g) (fun b hb e=>by subst e;exact Nat.lt_irrefl _ (Nat.lt_of_lt_of_le (Nat.lt_of_lt_of_le HGL.out hx1.out.size) hb)) F3.out F4.out);clear h5 kk5 f5
      try go_wp2_with fail
      refine hK.out _ _ (HC.out _ hx2.out) (fun hHeld=>?_);clear hK K
      try simp only [Act.put,lyA,lyB,lyC]
      refine take_b 20 46 ?_;refine last_L rfl (by kernel_rfl) (by kernel_rfl) (fun K hK=>?_);have hp5:=HO2.out.mono hx2.out;obtain⟨cur5,hh5,-⟩:=id hp5;have zf0:=frozen_row hh5 ((i+j)*3);have zf1:=frozen_row hh5 ((i+j)*3+1);have zf2:=frozen_row hh5 ((i+j)*3+2);obtain⟨z0,z1,z2,-⟩:=HC.out w5 hx2.out;clear hp5 hh5
      go_simp
      refine hK.out _ _ ?_;clear hK K
      try simp only [Act.put,lyA,lyB,lyC]
      refine NoPanic.normal ?_;have HP7:=ZZ (PlQ.set (HO2.out.mono hx2.out) (i:=i+j) (by rw [acc_len];have h1:=HIPP.out;have h2:=HJQ.out;omega) H5.out F5.out);have E7:=ZZ (show Ext w (put3at w5 g ((i+j)*3) (.int .i64 s5) (.slice A5 k5 ca5) (.slice B5 l5 cb5)) from by have hgw:w.heap.size≤g:=Nat.le_of_eq HG.out;exact(((am HE2.out hx2.out).setCell hgw _).setCell hgw _).setCell hgw _);go_wp2_with fail
      go_roundg (gk - 1)
      case measure=>have:=HZ2.out;omega
      case rel=>
       refine⟨j+1,ZZ (by have:=HJ.out;have:=HZ2.out;omega),by have h1:=HLQ.out;have h2:=HJQ.out;rw [IntWalk.wrap64_in _ ⟨by omega,by omega⟩];rfl,ZZ ?_,E7⟩;have h8:=HP7.out;rw [←HQI.out,←HQJ.out,acc_set p q HIPP.out HJQ.out] at h8;exact h8
end Go.Proofs.YtjamgccgoapbeaaGreatDoor
set_option linter.unusedVariables false
set_option maxRecDepth 100000
set_option maxHeartbeats 64000000
namespace Go.Proofs.YtjamgccgoapbeaaGreatDoor
open Go Go.RowKit
set_option linter.unusedSimpArgs false
theorem set3 (w:World) (o p q:Obj):Ext w (((w.alloc o).alloc p).alloc q)∧(((w.alloc o).alloc p).alloc q).heap[w.heap.size]?=some o∧(((w.alloc o).alloc p).alloc q).heap[w.heap.size+1]?=some p∧(((w.alloc o).alloc p).alloc q).heap[w.heap.size+1+1]?=some q:=by
 have k1:=ab w o;have k2:=ab (w.alloc o) p;have k3:=ab ((w.alloc o).alloc p) q;have r1:=heap_alloc_new w o;have r2:=heap_alloc_new (w.alloc o) p;have r3:=heap_alloc_new ((w.alloc o).alloc p) q;rw [World.size_alloc] at r2;rw [World.size_alloc,World.size_alloc] at r3;exact⟨am k1 (am k2 k3),((am k2 k3).block _ (lt_of_block r1)).trans r1,(k3.block _ (lt_of_block r2)).trans r2,r3⟩
def BoxQ (W:World) (g:Nat) (q:Rat):Prop:=∃s A k ca C m cb,W.heap[g]?=some (.cells #[.int .i64 s,.slice A k ca,.slice C m cb] 62 (0,0))∧Nr W (.agg #[.int .i64 s,.slice A k ca,.slice C m cb]) q∧BlN (·≠g) (.agg #[.int .i64 s,.slice A k ca,.slice C m cb])
theorem put3r_row {W:World} {g:Nat} {x y z a b c:Value} {T:TypeId} (h:W.heap[g]?=some (.cells #[x,y,z] T (0,0))):(put3at W g 0 a b c).heap[g]?=some (.cells #[a,b,c] T (0,0)):=by
 rw [put3at_row h];rfl
theorem BoxQ.put {W:World} {g:Nat} {q:Rat} {x y z:Value} {s:Int} {A C:Option Addr} {k ca m cb:Nat} (h:W.heap[g]?=some (.cells #[x,y,z] 62 (0,0))) (hq:Nr W (.agg #[.int .i64 s,.slice A k ca,.slice C m cb]) q) (hb:BlN (·≠g) (.agg #[.int .i64 s,.slice A k ca,.slice C m cb])):BoxQ (put3at W g 0 (.int .i64 s) (.slice A k ca) (.slice C m cb)) g q:=
 ⟨s,A,k,ca,C,m,cb,put3r_row h,hq.keepB hb (fun b hb=>put3at_heap hb _ _ _),hb⟩
theorem peval_n (M:Nat) (hM:0<M) (vp vx:Value) (p:List Rat) (x:Rat) (hlp:p.length≤100000) (hK:p.length*(M+M+1)+1≤134217728) (w:World) (hp:PlR w vp p) (hx:Nr w vx x) (hbp:∀c ∈ p,Bq M c) (bx:Bq M x):Calls Tryz.prog 40 #[vp,vx] w fun e w'=>∃v,e=.returned v∧Nr w' v (evR p x)∧Ext w w':=by
 obtain⟨n,hn⟩:∃n,p.length=n:=⟨_,rfl⟩;obtain⟨A,ca,rfl⟩:=hp.form;obtain⟨s1,A1,k1,ca1,B1,l1,cb1,rfl,-⟩:=hx.form;rw [hn] at hp ⊢;obtain⟨k1e,r3,r4,r5⟩:=set3 w (.cells #[.int .i64 s1,.slice A1 k1 ca1,.slice B1 l1 cb1] 62) (.cells #[.int .i64 0,.slice none 0 0,.slice none 0 0] 62) (.cells #[.int .i64 0,.slice none 0 0,.slice none 0 0] 62);have E1:=ZZ k1e;have R3:=ZZ r3;have R4:=ZZ r4;have R5:=ZZ r5;have HP0:=ZZ hp;have NX0:=ZZ hx;have HP:=ZZ (hp.mono k1e);have NX:=ZZ (hx.mono k1e);have HN:=ZZ hn;have HLP:=ZZ hlp;have HBP:=ZZ hbp;have BX:=ZZ bx;have HM0:=ZZ hM;have HK:=ZZ hK;have HW:=ZZ (show w.heap.size≤w.heap.size+1+1 by omega);have HW4:=ZZ (show w.heap.size≤w.heap.size+1 by omega);have q0:IntKind.i64.wrap ((n:Int) - 1)=(n:Int) - 1:=IntWalk.i64_in _ (by omega);clear hp hx hlp hbp bx hM hK hn k1e r3 r4 r5
 go_enter Tryz.func40,Tryz.ntmps40
 go_upto_region 2 with (fail)
 generalize ((w.alloc (.cells #[.int .i64 s1,.slice A1 k1 ca1,.slice B1 l1 cb1] _)).alloc (.cells #[.int .i64 0,.slice none 0 0,.slice none 0 0] _)).alloc (.cells #[.int .i64 0,.slice none 0 0,.slice none 0 0] _)=W1 at *;obtain⟨g3,hg3⟩:∃g,w.heap.size=g:=⟨_,rfl⟩;obtain⟨g4,hg4⟩:∃g,w.heap.size+1=g:=⟨_,rfl⟩;obtain⟨g5,hg5⟩:∃g,w.heap.size+1+1=g:=⟨_,rfl⟩;rw [hg3] at R3;rw [hg4] at R4;rw [hg5] at R5 HW;rw [hg4] at HW4;rw [hg5,hg4,hg3];have H35:=ZZ (show g3≠g5 by omega);have H45:=ZZ (show g4≠g5 by omega);clear hg3 hg4 hg5;go_wp2_with fail
 go_loopg [6] n (fun k i wr=>∃z,i=.int .i64 z∧Hid (z=(k:Int) - 1∧k≤n)∧Hid (BoxQ wr g5 (evR (p.drop k) x))∧Hid (Ext w wr)∧Hid (wr.heap[g3]?=some (.cells #[.int .i64 s1,.slice A1 k1 ca1,.slice B1 l1 cb1] 62 (0,0))∧Nr wr (.agg #[.int .i64 s1,.slice A1 k1 ca1,.slice B1 l1 cb1]) x)∧Hid (wr.heap[g4]?=some (.cells #[.int .i64 0,.slice none 0 0,.slice none 0 0] 62 (0,0))))
 case atStart=>exact⟨_,rfl,ZZ ⟨rfl,Nat.le_refl _⟩,ZZ ⟨_,_,_,_,_,_,_,R5.out,by rw [List.drop_eq_nil_of_le (Nat.le_of_eq HN.out)];exact Nr.zero _,bln_mk blc_none blc_none⟩,E1,ZZ ⟨R3.out,NX.out⟩,R4⟩
 case round=>
  obtain⟨z,rfl,HZ,HV,HE,HX,HR4⟩:=hrel;rename World=>WR;obtain⟨s2,A2,k2,ca2,B2,l2,cb2,rv,nv,fv⟩:=HV.out;have RV:=ZZ rv;have NV:=ZZ nv;have FV:=ZZ fv;clear rv nv fv
  rcases Nat.eq_zero_or_pos gk with hz|hz
  ·subst hz
   have q1:decide ((0:Int)≤z)=false:=decide_eq_false (by have:=HZ.out.1;omega);obtain⟨p0,p1,p2,-⟩:=aj RV.out;obtain⟨t0,t1,t2,tf0,tf1,tf2⟩:=aj HR4.out;go_wp2_with fail;refine bodyPost_ret (v:=.agg #[.int .i64 s2,.slice A2 k2 ca2,.slice B2 l2 cb2]) (by simp [results,Tryz.f40];go_simp) rfl ?_;exact⟨_,rfl,Nr.put_z NV.out HR4.out _ _ _,av HE.out HW4.out _ _ _⟩
  ·obtain⟨j,rfl⟩:∃j,gk=j+1:=⟨gk - 1,by omega⟩
   have hjn:j<n:=by have:=HZ.out.2;omega
   obtain rfl:z=(j:Int):=by have:=HZ.out.1;omega
   have q1:decide ((0:Int)≤(j:Int))=true:=decide_eq_true (by omega);have q4:(j:Int)<(n:Int):=by omega
   have q5:(0:Int)≤(j:Int):=by omega
   have q6:IntKind.i64.wrap ((j:Int) - 1)=(j:Int) - 1:=IntWalk.i64_in _ (by have h1:=HLP.out;have h2:=HN.out;omega);obtain⟨b,o,cq,rfl,hcq,htri⟩:=HP0.out.at_ hjn;obtain⟨s3,A3,k3,ca3,B3,l3,cb3,c0,c1,c2,hn3⟩:=htri
   have hd:p.drop j=cq :: p.drop (j+1):=by
    obtain⟨h1,h2⟩:=List.getElem?_eq_some_iff.1 hcq;rw [List.drop_eq_getElem_cons h1,h2]
   obtain⟨ev,hev⟩:∃q,evR (p.drop (j+1)) x=q:=⟨_,rfl⟩;have bev:=bq_ev BX.out (p.drop (j+1)) (fun c hc=>HBP.out c (List.mem_of_mem_drop hc));rw [hev] at NV bev
   have hlen:(p.drop (j+1)).length*(M+M+1)+(M+M+1)≤p.length*(M+M+1):=by
    rw [List.length_drop,←Nat.succ_mul];exact Nat.mul_le_mul_right _ (by have:=HN.out;omega)
   have BV:=ZZ (show Bq (p.length*(M+M+1)+1) ev from bev.mono (by omega));have BVX:=ZZ (show Bq (p.length*(M+M+1)+1) (ev*x) from (bev.mul BX.out).mono (by omega));have BXK:=ZZ (show Bq (p.length*(M+M+1)+1) x from BX.out.mono (by omega));have BCK:=ZZ (show Bq (p.length*(M+M+1)+1) cq from (HBP.out cq (List.mem_of_getElem? hcq)).mono (by omega));have HEV:=ZZ (show evR (p.drop j) x=ev*x+cq by rw [hd,←hev];rfl);have N3:=ZZ (hn3.mono HE.out);have F3:=ZZ (hn3.old.imp (D:=(·≠g5)) (fun b hb e=>by have:=HW.out;omega));have NX:=ZZ HX.out.2;have HGL:=ZZ (lt_of_block RV.out)
   have HC:=ZZ (show ∀W,Ext WR W→W.cell? ⟨g5,0,none⟩=some (.int .i64 s2)∧W.cell? ⟨g5,1,none⟩=some (.slice A2 k2 ca2)∧W.cell? ⟨g5,2,none⟩=some (.slice B2 l2 cb2)∧W.cell? ⟨g3,0,none⟩=some (.int .i64 s1)∧W.cell? ⟨g3,1,none⟩=some (.slice A1 k1 ca1)∧W.cell? ⟨g3,2,none⟩=some (.slice B1 l1 cb1)∧W.cell? ⟨b,o+j*3,none⟩=some (.int .i64 s3)∧W.cell? ⟨b,o+j*3+1,none⟩=some (.slice A3 k3 ca3)∧W.cell? ⟨b,o+j*3+2,none⟩=some (.slice B3 l3 cb3) from fun W k=>by
    obtain⟨y0,y1,y2,-⟩:=aj ((k.block _ (lt_of_block RV.out)).trans RV.out);obtain⟨x0,x1,x2,-⟩:=aj ((k.block _ (lt_of_block HX.out.1)).trans HX.out.1);have kk:=am HE.out k;exact⟨y0,y1,y2,x0,x1,x2,ar kk c0,ar kk c1,ar kk c2⟩)
   clear hz hjn hcq c0 c1 c2 hn3 hd hev bev hlen
   go_upto_region 5 with (fail)
   have hun:undef=.tuple #[]:=rfl;refine wp_region_noPanic ?_;refine region_L (S:=fun W=>W.cell? ⟨g5,0,none⟩=some (.int .i64 s2)∧W.cell? ⟨g5,1,none⟩=some (.slice A2 k2 ca2)∧W.cell? ⟨g5,2,none⟩=some (.slice B2 l2 cb2)∧W.cell? ⟨g3,0,none⟩=some (.int .i64 s1)∧W.cell? ⟨g3,1,none⟩=some (.slice A1 k1 ca1)∧W.cell? ⟨g3,2,none⟩=some (.slice B1 l1 cb1)∧W.cell? ⟨b,o+j*3,none⟩=some (.int .i64 s3)∧W.cell? ⟨b,o+j*3+1,none⟩=some (.slice A3 k3 ca3)∧W.cell? ⟨b,o+j*3+2,none⟩=some (.slice B3 l3 cb3)) 8 (by kernel_rfl) (HC.out _ (ac _)) (fun hHeld=>?_);refine take_b 0 15 ?_;refine take_b 1 16 ?_;refine take_b 3 18 ?_;refine take_b 4 19 ?_;refine take_b 5 20 ?_;refine take_b 6 21 ?_;refine call_L (i:=2) 17 rfl rfl (by kernel_rfl) (fun K hK=>?_)
   go_simp
   go_at_call 90
   refine(mul_f (p.length*(M+M+1)+1) HK.out _ _ ev x _ (NV.out.mono (ac _)) (NX.out.mono (ac _)) BV.out BXK.out).mono ?_;rintro e w4 ⟨v4,rfl,h4,kk4,f4⟩;have H4:=ZZ h4;have hx1:=ZZ (show Ext WR w4 from am (ac _) kk4);have F4:=ZZ (f4.bln (C:=(·≠g5)) (fun b hb e=>by subst e;exact Nat.lt_irrefl _ (Nat.lt_of_lt_of_le HGL.out hb)));clear h4 kk4 f4
   try go_wp2_with fail
   refine hK.out _ _ (HC.out _ hx1.out) (fun hHeld=>?_);clear hK K
   try simp only [Act.put,lyA,lyB,lyC]
   refine call_L (i:=7) 22 rfl rfl (by kernel_rfl) (fun K hK=>?_)
   go_simp
   go_at_call 87
   refine(add_f (p.length*(M+M+1)+1) HK.out _ _ (ev*x) cq _ H4.out (N3.out.mono hx1.out) BVX.out BCK.out).mono ?_;rintro e w5 ⟨v5,rfl,h5,kk5,f5⟩;obtain⟨s5,A5,k5,ca5,B5,l5,cb5,rfl,-⟩:=h5.form;have H5:=ZZ h5;have hx2:=ZZ (am hx1.out kk5);have F5:=ZZ (f5 (·≠g5) (fun b hb e=>by subst e;exact Nat.lt_irrefl _ (Nat.lt_of_lt_of_le (Nat.lt_of_lt_of_le HGL.out hx1.out.size) hb)) F4.out F3.out);clear h5 kk5 f5
   try go_wp2_with fail
   refine hK.out _ _ (HC.out _ hx2.out) (fun hHeld=>?_);clear hK K
   try simp only [Act.put,lyA,lyB,lyC]
   refine last_L rfl (by kernel_rfl) (by kernel_rfl) (fun K hK=>?_);have hh5:=(hx2.out.block _ (lt_of_block RV.out)).trans RV.out;have zf0:=frozen_row hh5 0;have zf1:=frozen_row hh5 1;have zf2:=frozen_row hh5 2;obtain⟨z0,z1,z2,-⟩:=HC.out w5 hx2.out;clear hh5
   go_simp
   refine hK.out _ _ ?_;clear hK K
   try simp only [Act.put,lyA,lyB,lyC]
   refine NoPanic.normal ?_;have hr5:=(hx2.out.block _ (lt_of_block RV.out)).trans RV.out;have HB7:=ZZ (BoxQ.put hr5 H5.out F5.out);have E7:=ZZ (show Ext w (put3at w5 g5 0 (.int .i64 s5) (.slice A5 k5 ca5) (.slice B5 l5 cb5)) from (((am HE.out hx2.out).setCell HW.out _).setCell HW.out _).setCell HW.out _);have HX7:=ZZ (show (put3at w5 g5 0 (.int .i64 s5) (.slice A5 k5 ca5) (.slice B5 l5 cb5)).heap[g3]?=some (.cells #[.int .i64 s1,.slice A1 k1 ca1,.slice B1 l1 cb1] 62 (0,0))∧Nr (put3at w5 g5 0 (.int .i64 s5) (.slice A5 k5 ca5) (.slice B5 l5 cb5)) (.agg #[.int .i64 s1,.slice A1 k1 ca1,.slice B1 l1 cb1]) x from ⟨(put3at_heap H35.out _ _ _).trans ((hx2.out.block _ (lt_of_block HX.out.1)).trans HX.out.1),(NX0.out.mono E7.out)⟩);have HR7:=ZZ (show (put3at w5 g5 0 (.int .i64 s5) (.slice A5 k5 ca5) (.slice B5 l5 cb5)).heap[g4]?=some (.cells #[.int .i64 0,.slice none 0 0,.slice none 0 0] 62 (0,0)) from (put3at_heap H45.out _ _ _).trans ((hx2.out.block _ (lt_of_block HR4.out)).trans HR4.out));clear hr5;go_wp2_with fail
   go_roundg j
   case measure=>omega
   case rel=>
    refine⟨_,rfl,ZZ ⟨?_,by have:=HZ.out.2;omega⟩,ZZ ?_,E7,HX7,HR7⟩
    ·first|exact q6|rfl|(rw [q6];exact q6)|(trace_state;fail)
    ·rw [HEV.out];exact HB7.out
end Go.Proofs.YtjamgccgoapbeaaGreatDoor
