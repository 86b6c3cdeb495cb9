/- Products of polynomials: the walk. -/
import Derived.Test.YtkoaakefgacokaaGreatDoorGTf
import Derived.Laws.MakeOwn
import Derived.Deep.RegionHeld3
set_option linter.unusedVariables false
set_option linter.unusedSimpArgs false
set_option maxRecDepth 100000
set_option maxHeartbeats 64000000
namespace Go.Proofs.YtkoaakefgacokaaGreatDoor
open Go.RowKit
def zrw (n:Nat):Array Value:=madeCells #[.bool false,.slice none 0 0,.slice none 0 0] (n*3)
theorem mk_nums (n:Nat) (z:Int) (hz:z=(n:Int)) (hn:n≤1000000) (w:World):(Instr.makeSlice 27 (.int .i64 z) (.int .i64 z)).run Tryz.prog w=.ok (.slice (some ⟨w.heap.size,0,none⟩) n n) (w.alloc (.cells (zrw n) 38)):=by
 subst hz;obtain⟨i,hi,h1,h2,h3⟩:=info_parts info_num;have h:=run_make (P:=Tryz.prog) w 27 38 i _ Tryz.underlying27 hi h1 .i64 .i64 (n:Int) (n:Int) (by omega) (Int.le_refl _) (by rw [h3];omega) (by omega);rw [h,h2]
 rfl
theorem zrw_get (n i:Nat) (hi:i<n):(zrw n)[i*3]?=some (.bool false)∧(zrw n)[i*3+1]?=some (.slice none 0 0)∧(zrw n)[i*3+2]?=some (.slice none 0 0):=by
 have key:∀r,r<3→(zrw n)[i*3+r]?=some ((#[Value.bool false,Value.slice none 0 0,Value.slice none 0 0]:Array Value)[(i*3+r) % 3]!):=fun r hr=>by
  unfold zrw madeCells;rw [Array.getElem?_map,Array.getElem?_range,if_pos (by omega)]
  rfl
 refine⟨?_,?_,?_⟩
 ·have h:=key 0 (by decide);rw [show (i*3+0) % 3=0 by omega] at h;exact h
 ·have h:=key 1 (by decide);rw [show (i*3+1) % 3=1 by omega] at h;exact h
 ·have h:=key 2 (by decide);rw [show (i*3+2) % 3=2 by omega] at h;exact h
theorem plo_new (w:World) (n:Nat) (hn:n≤1000000):PlO (w.alloc (.cells (zrw n) 38)) w.heap.size (.slice (some ⟨w.heap.size,0,none⟩) n n) (List.replicate n 0):=by
 have hr:=heap_alloc_new w (.cells (zrw n) 38);refine⟨n,zrw n,by rw [List.length_replicate],hr,by rw [List.length_replicate];exact Nat.le_refl _,by unfold maxLen;omega,size_madeCells _ _,fun i q hq=>?_⟩;rw [List.getElem?_replicate] at hq
 split at hq
 ·rename_i hi
  obtain rfl:(0:Rat)=q:=Option.some.inj hq;obtain⟨z0,z1,z2⟩:=zrw_get n i hi;exact⟨_,_,_,_,_,_,_,by rw [cell_of_row _ _ _ _ _ _ hr];exact z0,by rw [cell_of_row _ _ _ _ _ _ hr];exact z1,by rw [cell_of_row _ _ _ _ _ _ hr];exact z2,Nm.zero _⟩
 ·cases hq
theorem PlO.mono {w w':World} {g:Nat} {v:Value} {l:List Rat} (h:PlO w g v l) (k:Ext w w'):PlO w' g v l:=by
 obtain⟨cp,cur,e,hh,h1,h2,h3,h4⟩:=h;exact⟨cp,cur,e,(k.block _ (lt_of_block hh)).trans hh,h1,h2,h3,fun i r hr=>(h4 i r hr).mono k⟩
theorem mul_p (M:Nat) (hM:0<M) (vp vq:Value) (p q:List Rat) (hlp:p.length≤100000) (hlq:q.length≤100000) (hK:p.length*(M+M+1)+1≤1099511627776) (w:World) (hp:Pl w vp p) (hq:Pl w vq q) (hbp:∀x ∈ p,Bq M x) (hbq:∀x ∈ q,Bq M x):Calls Tryz.prog 7 #[vp,vq] w fun e w'=>∃v',e=.returned v'∧PlN w.heap.size w' v' (mulF p q)∧Ext w w':=by
 obtain⟨A,cap,rfl,hc,hA⟩:=id hp;obtain⟨C,cap2,rfl,hc2,hC⟩:=id hq;obtain⟨m,hm⟩:∃m,p.length=m:=⟨_,rfl⟩;obtain⟨n,hn⟩:∃n,q.length=n:=⟨_,rfl⟩;rw [hm,hn]
 have q3:IntKind.i64.wrap ((m:Int)+(n:Int))=((m+n:Nat):Int):=by
  rw [show (m:Int)+(n:Int)=((m+n:Nat):Int) by omega];exact IntWalk.i64_in _ (by omega)
 have qmk:=mk_nums (m+n) ((m+n:Nat):Int) rfl (by omega) w;have qmk2:=mk_nums (m+n) ((m:Int)+(n:Int)) (by omega) (by omega) w;have PO1:=ZZ (plo_new w (m+n) (by omega));have HMM:=ZZ hm;have HNN:=ZZ hn;have HLP:=ZZ hlp;have HLQ:=ZZ hlq;have HAA:=ZZ hA;have HCC:=ZZ hC;have HBP:=ZZ hbp;have HBQ:=ZZ hbq;have HM0:=ZZ hM;have HK:=ZZ hK
 have HMK:=ZZ (show p.length≠0→M+M≤p.length*(M+M+1)+1 from fun h=>by
  have:1*(M+M+1)≤p.length*(M+M+1):=Nat.mul_le_mul_right _ (by omega)
  omega)
 clear hp hq hlp hlq hm hn hA hC hc hc2 hbp hbq hM hK
 go_enter Tryz.func7,Tryz.ntmps7
 go_upto_region 2 with (fail)
 have E1:=ZZ (ab w (.cells (zrw (m+n)) 38));generalize World.alloc w (.cells (zrw (m+n)) _)=W1 at *;obtain⟨g,hg⟩:∃g,w.heap.size=g:=⟨_,rfl⟩;have PO1:=ZZ (show PlO W1 g (.slice (some ⟨g,0,none⟩) (m+n) (m+n)) (List.replicate (m+n) 0) from hg ▸ PO1.out);have HG:=ZZ hg;rw [hg];clear hg;go_wp2_with fail
 go_loopg [18] m (fun k u wr=>∃i,Hid (i+k=m)∧u=.int .i64 (i:Int)∧Hid (PlO wr g (.slice (some ⟨g,0,none⟩) (m+n) (m+n)) (accL p q i 0))∧Hid (Ext w wr))
 case atStart=>exact⟨0,ZZ (Nat.zero_add _),rfl,ZZ (by rw [acc_zero,HMM.out,HNN.out];exact PO1.out),E1⟩
 case round=>
  obtain⟨i,HI,rfl,HO,HE⟩:=hrel;rename World=>WR
  rcases Nat.eq_zero_or_pos gk with hz|hz
  ·subst hz
   obtain rfl:i=m:=HI.out;have q1:decide ((i:Int)<(i:Int))=false:=decide_eq_false (Int.lt_irrefl _);go_wp2_with fail;refine(trim_q _ (accL p q i 0) (by rw [acc_len,HMM.out,HNN.out];have h1:=HLP.out;have h2:=HLQ.out;rw [HMM.out] at h1;rw [HNN.out] at h2;omega) _ (by have h:=HO.out.pl;exact h)).mono ?_;rintro e w' ⟨v',rfl,hn,kk⟩;rw [show trimF (accL p q i 0)=mulF p q by rw [←mulF_acc p q,HMM.out]] at hn;have HN:=ZZ hn;have HK2:=ZZ kk;clear hn kk;go_wp2_with fail;go_ret;refine⟨_,rfl,?_,al HE.out HK2.out⟩
   rcases HN.out with hn|⟨g,hg,hn⟩
   ·exact .inl hn
   ·refine .inr ⟨g,?_,hn⟩
    have h1:=HE.out.size;have h2:=HG.out;omega
  ·have him:i<m:=by have:=HI.out;omega
   have hip:i<p.length:=by rw [HMM.out];exact him
   have q1:decide ((i:Int)<(m:Int))=true:=decide_eq_true (by omega);have q4:(i:Int)<(m:Int):=by omega
   have q5:(0:Int)≤(i:Int):=by omega
   rcases HAA.out with ⟨-,h5⟩|⟨b,o,rfl,ht⟩
   ·rw [h5] at hip;simp at hip
   have hp2:p[i]?=some (co p i):=by unfold co;rw [List.getElem?_eq_getElem hip];rfl
   obtain⟨s1,A1,k1,ca1,B1,l1,cb1,c0,c1,c2,hn1⟩:=(ht i _ hp2).mono HE.out;obtain⟨c,hcs⟩:∃c,(co p i).num.sign=c:=⟨_,rfl⟩;have HCS:=ZZ hcs;have BA:=ZZ (HBP.out (co p i) (List.mem_of_getElem? hp2));have HA1:=ZZ (hn1.mono (ab WR (.cells #[.bool s1,.slice A1 k1 ca1,.slice B1 l1 cb1] 38)));have EA:=ZZ (ab WR (.cells #[.bool s1,.slice A1 k1 ca1,.slice B1 l1 cb1] 38));have RA:=ZZ (heap_alloc_new WR (.cells #[.bool s1,.slice A1 k1 ca1,.slice B1 l1 cb1] 38));have HZ:=ZZ hz;have HIP:=ZZ hip;clear hn1 hp2 ht hcs hz hip
   go_upto_region 5 with (fail)
   generalize World.alloc WR (.cells #[.bool s1,.slice A1 k1 ca1,.slice B1 l1 cb1] _)=W3 at *;have HGA:=ZZ (show WR.heap.size≠g from fun e=>by obtain⟨cp,cur,-,hh,-⟩:=HO.out;have:=lt_of_block hh;omega);generalize WR.heap.size=ga at *;obtain⟨a0,a1,a2,-⟩:=aj RA.out;go_wp2_with fail;refine(sign_q' _ (co p i) _ c HCS.out HA1.out).mono ?_;rintro e w4 ⟨rfl,k4⟩;have K4:=ZZ k4;clear c0 c1 c2 a0 a1 a2 k4
   by_cases hc0:c=0
   ·subst hc0
    have z0:((0:Int) == 0)=true:=rfl;have HZ0:=ZZ ((num_zero_iff HCS.out).1 rfl);go_wp2_with fail
    go_roundg (gk - 1)
    case measure=>have:=HZ.out;omega
    case rel=>exact⟨i+1,ZZ (by have:=HI.out;have:=HZ.out;omega),by have h1:=HLP.out;have h2:=HIP.out;rw [IntWalk.wrap64_in _ ⟨by omega,by omega⟩];rfl,ZZ (by rw [←acc_skip p q i HZ0.out];exact HO.out.mono (al EA.out K4.out)),ZZ (al HE.out (al EA.out K4.out))⟩
   ·have z0:(c == 0)=false:=beq_eq_false_iff_ne.2 hc0
    clear hc0;have PW:=ZZ (HO.out.mono (al EA.out K4.out));have EW4:=ZZ (al HE.out (al EA.out K4.out));have NA0:=ZZ (HA1.out.mono K4.out);have RA4:=ZZ ((K4.out.block _ (lt_of_block RA.out)).trans RA.out);go_wp2_with fail;obtain⟨ko,rfl⟩:∃ko,ko=gk:=⟨_,rfl⟩
    go_loopg [28] n (fun k u wr=>∃j,Hid (j+k=n)∧u=.int .i64 (j:Int)∧Hid (PlO wr g (.slice (some ⟨g,0,none⟩) (m+n) (m+n)) (accL p q i j))∧Hid (Ext w wr)∧Hid (wr.heap[ga]?=some (.cells #[.bool s1,.slice A1 k1 ca1,.slice B1 l1 cb1] 38 (0,0)))∧Hid (Nm wr (.agg #[.bool s1,.slice A1 k1 ca1,.slice B1 l1 cb1]) (co p i)))
    case atStart=>exact⟨0,ZZ (Nat.zero_add _),rfl,PW,EW4,RA4,NA0⟩
    case round=>
     obtain⟨j,HJ,rfl,HO2,HE2,RG,NA⟩:=hrel;rename World=>WI
     rcases Nat.eq_zero_or_pos gk with hz2|hz2
     ·subst hz2
      obtain rfl:j=n:=HJ.out;have q1n:decide ((j:Int)<(j:Int))=false:=decide_eq_false (Int.lt_irrefl _);go_wp2_with fail
      go_roundg (ko - 1)
      case measure=>have:=HZ.out;omega
      case rel=>exact⟨i+1,ZZ (by have:=HI.out;have:=HZ.out;omega),by have h1:=HLP.out;have h2:=HIP.out;rw [IntWalk.wrap64_in _ ⟨by omega,by omega⟩];rfl,ZZ (by rw [←acc_next p q i,HNN.out];exact HO2.out),HE2⟩
     ·have hjn:j<n:=by have:=HJ.out;omega
      have hjq:j<q.length:=by rw [HNN.out];exact hjn
      have q1n:decide ((j:Int)<(n:Int))=true:=decide_eq_true (by omega);have q1n':decide (j<n)=true:=decide_eq_true hjn;have q4n:(j:Int)<(n:Int):=by omega
      have q5n:(0:Int)≤(j:Int):=by omega
      have q6:IntKind.i64.wrap ((i:Int)+(j:Int))=(i:Int)+(j:Int):=by
       have h1:=HLP.out;have h2:=HLQ.out;have h3:=HIP.out;exact IntWalk.i64_in _ (by omega)
      have q7:(i:Int)+(j:Int)<(m:Int)+(n:Int):=by have h1:=HMM.out;have h2:=HIP.out;omega
      have q8:(0:Int)≤(i:Int)+(j:Int):=by omega
      have q9:((i:Int)+(j:Int)).toNat=i+j:=by omega
      rcases HCC.out with ⟨-,h5⟩|⟨b2,o2,rfl,ht2⟩
      ·rw [h5] at hjq;simp at hjq
      have hq2:q[j]?=some (co q j):=by unfold co;rw [List.getElem?_eq_getElem hjq];rfl
      obtain⟨s2,A2,k2,ca2,B2,l2,cb2,c0,c1,c2,hn2⟩:=(ht2 j _ hq2).mono HE2.out;have BQ2:=ZZ (HBQ.out (co q j) (List.mem_of_getElem? hq2));have BQ3:=ZZ (show Bq (p.length*(M+M+1)+1) (pcv (co p) (co q) i (i+j)) from (pcv_bq (bq_co HM0.out HBP.out) (bq_co HM0.out HBQ.out) i (i+j)).mono (Nat.add_le_add_right (Nat.mul_le_mul_right _ (Nat.le_of_lt HIP.out)) 1));have E6:=ZZ (ab WI (.cells #[.bool s2,.slice A2 k2 ca2,.slice B2 l2 cb2] 38));have N2:=ZZ (hn2.mono (ab WI (.cells #[.bool s2,.slice A2 k2 ca2,.slice B2 l2 cb2] 38)));have R7:=ZZ (heap_alloc_new WI (.cells #[.bool s2,.slice A2 k2 ca2,.slice B2 l2 cb2] 38));have HZ2:=ZZ hz2;have HJQ:=ZZ hjq;clear hn2 hq2 ht2 hz2 hjq
      go_upto_region 9 with (fail)
      generalize World.alloc WI (.cells #[.bool s2,.slice A2 k2 ca2,.slice B2 l2 cb2] _)=W6 at *;generalize WI.heap.size=g7 at *;have PO:=ZZ (show ∀W,Ext W6 W→PlO W g (.slice (some ⟨g,0,none⟩) (m+n) (m+n)) (accL p q i j) from fun W k=>HO2.out.mono (al E6.out k));obtain⟨-,-,-,-,-,-,-,h4⟩:=PO.out W6 (ae _);obtain⟨s3,A3,k3,ca3,B3,l3,cb3,d0,d1,d2,hn3⟩:=h4 (i+j) _ (acc_at p q HIP.out HJQ.out);have N3:=ZZ hn3
      have HC:=ZZ (show ∀W,Ext W6 W→W.cell? ⟨g,(i+j)*3,none⟩=some (.bool s3)∧W.cell? ⟨g,(i+j)*3+1,none⟩=some (.slice A3 k3 ca3)∧W.cell? ⟨g,(i+j)*3+2,none⟩=some (.slice B3 l3 cb3)∧W.cell? ⟨ga,0,none⟩=some (.bool s1)∧W.cell? ⟨ga,1,none⟩=some (.slice A1 k1 ca1)∧W.cell? ⟨ga,2,none⟩=some (.slice B1 l1 cb1)∧W.cell? ⟨g7,0,none⟩=some (.bool s2)∧W.cell? ⟨g7,1,none⟩=some (.slice A2 k2 ca2)∧W.cell? ⟨g7,2,none⟩=some (.slice B2 l2 cb2) from fun W k=>by
       obtain⟨y0,y1,y2,-⟩:=aj ((k.block _ (lt_of_block R7.out)).trans R7.out);have kk:=al E6.out k;obtain⟨x0,x1,x2,-⟩:=aj ((kk.block _ (lt_of_block RG.out)).trans RG.out);exact⟨ao k d0,ao k d1,ao k d2,x0,x1,x2,y0,y1,y2⟩)
      clear c0 c1 c2 d0 d1 d2 hn3 h4;have hun:undef=.tuple #[]:=rfl;have HK1:=HK;have HM1:=ZZ (show M≤1099511627776 from by have h1:=HMK.out;have h2:=HIP.out;have h3:=HK.out;have h4:=h1 (by omega);omega);refine wp_region_noPanic ?_;refine region_L (S:=fun W=>W.cell? ⟨g,(i+j)*3,none⟩=some (.bool s3)∧W.cell? ⟨g,(i+j)*3+1,none⟩=some (.slice A3 k3 ca3)∧W.cell? ⟨g,(i+j)*3+2,none⟩=some (.slice B3 l3 cb3)∧W.cell? ⟨ga,0,none⟩=some (.bool s1)∧W.cell? ⟨ga,1,none⟩=some (.slice A1 k1 ca1)∧W.cell? ⟨ga,2,none⟩=some (.slice B1 l1 cb1)∧W.cell? ⟨g7,0,none⟩=some (.bool s2)∧W.cell? ⟨g7,1,none⟩=some (.slice A2 k2 ca2)∧W.cell? ⟨g7,2,none⟩=some (.slice B2 l2 cb2)) 15 (by kernel_rfl) (HC.out _ (ac _)) (fun hHeld=>?_);refine take_b 0 33 ?_;refine take_b 1 34 ?_;refine take_b 2 35 ?_;refine take_b 3 36 ?_;refine take_b 4 37 ?_;refine take_b 5 38 ?_;refine take_b 6 39 ?_;refine take_b 7 40 ?_;refine take_b 8 41 ?_;refine take_b 9 42 ?_;refine take_b 10 43 ?_;refine take_b 11 44 ?_;refine call_L (i:=12) 45 rfl rfl (by kernel_rfl) (fun K hK=>?_)
      go_simp
      go_at_call 22
      refine(mul_q M HM1.out _ _ (co p i) (co q j) _ (NA.out.mono (al E6.out (ac _))) (N2.out.mono (ac _)) BA.out BQ2.out).mono ?_;rintro e w4 ⟨v4,rfl,h4,kk4⟩;obtain⟨s4,A4,k4,ca4,B4,l4,cb4,rfl⟩:=h4.form2;have H4:=ZZ h4;have hx1:=ZZ (show Ext W6 w4 from al (ac _) kk4);clear h4 kk4
      try go_wp2_with fail
      refine hK.out _ _ (HC.out _ hx1.out) (fun hHeld=>?_);clear hK K
      try simp only [Act.put,lyA,lyB,lyC]
      refine call_L (i:=13) 46 rfl rfl (by kernel_rfl) (fun K hK=>?_)
      go_simp
      go_at_call 21
      refine(add_q (p.length*(M+M+1)+1) HK.out _ _ (pcv (co p) (co q) i (i+j)) (co p i*co q j) _ (N3.out.mono hx1.out) H4.out BQ3.out ((BA.out.mul BQ2.out).mono (HMK.out (by have:=HIP.out;omega)))).mono ?_;rintro e w5 ⟨v5,rfl,h5,kk5⟩;obtain⟨s5,A5,k5,ca5,B5,l5,cb5,rfl⟩:=h5.form2;have H5:=ZZ h5;have hx2:=ZZ (al hx1.out kk5);clear h5 kk5
      try go_wp2_with fail
      refine hK.out _ _ (HC.out _ hx2.out) (fun hHeld=>?_);clear hK K
      try simp only [Act.put,lyA,lyB,lyC]
      refine take_b 14 47 ?_;refine last_L rfl (by kernel_rfl) (by kernel_rfl) (fun K hK=>?_);have hp5:=PO.out w5 hx2.out;obtain⟨-,cur5,-,hh5,-⟩:=id hp5;have zf0:=frozen_row hh5 ((i+j)*3);have zf1:=frozen_row hh5 ((i+j)*3+1);have zf2:=frozen_row hh5 ((i+j)*3+2);obtain⟨z0,z1,z2,-⟩:=HC.out w5 hx2.out;clear hp5 hh5
      go_simp
      refine hK.out _ _ ?_;clear hK K
      try simp only [Act.put,lyA,lyB,lyC]
      refine NoPanic.normal ?_;have HP7:=ZZ (PlO.set (PO.out w5 hx2.out) (i:=i+j) (by rw [acc_len];have h1:=HIP.out;have h2:=HJQ.out;omega) H5.out);have E7:=ZZ (show Ext w (put3at w5 g ((i+j)*3) (.bool s5) (.slice A5 k5 ca5) (.slice B5 l5 cb5)) from by have hgw:w.heap.size≤g:=Nat.le_of_eq HG.out;exact(((al HE2.out (al E6.out hx2.out)).setCell hgw _).setCell hgw _).setCell hgw _);have PX:=PO.out w5 hx2.out
      have RG7:=ZZ (show (put3at w5 g ((i+j)*3) (.bool s5) (.slice A5 k5 ca5) (.slice B5 l5 cb5)).heap[ga]?=some (.cells #[.bool s1,.slice A1 k1 ca1,.slice B1 l1 cb1] 38 (0,0)) from by
       have kk:=al E6.out hx2.out;have h1:=(kk.block _ (lt_of_block RG.out)).trans RG.out;unfold put3at;rw [Below.heap_setCell _ _ _ _ HGA.out,Below.heap_setCell _ _ _ _ HGA.out,Below.heap_setCell _ _ _ _ HGA.out];exact h1)
      have NA7:=ZZ (Nm.put3at (NA.out.mono (al E6.out hx2.out)) PX (i:=i+j) (by rw [acc_len];have h1:=HIP.out;have h2:=HJQ.out;omega) (.bool s5) (.slice A5 k5 ca5) (.slice B5 l5 cb5));clear PX;go_wp2_with fail
      go_roundg (gk - 1)
      case measure=>have:=HZ2.out;omega
      case rel=>
       refine⟨j+1,ZZ (by have:=HJ.out;have:=HZ2.out;omega),by have h1:=HLQ.out;have h2:=HJQ.out;rw [IntWalk.wrap64_in _ ⟨by omega,by omega⟩];rfl,ZZ ?_,E7,RG7,NA7⟩;have h8:=HP7.out;rw [acc_set p q HIP.out HJQ.out] at h8;exact h8
end Go.Proofs.YtkoaakefgacokaaGreatDoor
namespace Go.Proofs.YtkoaakefgacokaaGreatDoor
open Go.RowKit
section
variable {P:Program} {md:Region.Mode} {ops:Array Oper} {Q:Exit→Act→World→Prop} {S:World→Prop}
theorem take_p {i:Nat} (d:Tmp) {oi:Oper} {v:Value} {fuel:Nat} {listed:Array Bool} {a:Act} {w:World} (hi:ops[i]?=some oi) (hd:oi.dst=some d) (hs:Region.noSelect ops=true) (hf:Region.free md ops listed i=true) (hr:(Region.ready md ops listed).contains i=true) (hQ:∀c a w,Q (.panic c) (a.put (some d) v) w→Q (.panic c) a w) (hy:YieldsIf P ops S oi v a) (hS:S w) (h:wpAnyH P md ops Q S fuel (listed.setIfInBounds i true) (a.put (some d) v) w):wpAnyH P md ops Q S (fuel+1) listed a w:=by
 rw [←hd] at hQ h;exact wpAnyH_take hi hs hf hr hQ hy hS h
theorem take_a (i:Nat) (d:Tmp) {oi:Oper} {v:Value} {fuel:Nat} {listed:Array Bool} {a a':Act} {w:World} (h:wpAnyH P md ops Q S fuel (listed.setIfInBounds i true) a' w) (hi:ops[i]?=some oi:=by exact rfl) (hd:oi.dst=some d:=by exact rfl) (hs:Region.noSelect ops=true:=by kernel_rfl) (hf:Region.free md ops listed i=true:=by kernel_rfl) (hr:(Region.ready md ops listed).contains i=true:=by kernel_rfl) (hQ:∀c a w,Q (.panic c) (a.put (some d) v) w→Q (.panic c) a w:=by exact fun _ _ _ h=>h) (hy:YieldsIf P ops S oi v a:=by refine Or.inl ⟨rfl,?_⟩;intro w hSw;(try dsimp only at hSw);go_simp;try with_reducible rfl) (hS:S w:=by assumption) (ha:a.put (some d) v=a':=by simp only [Act.put,List.setIfInBounds_toArray,List.set_cons_zero,List.set_cons_succ] <;> rfl):wpAnyH P md ops Q S (fuel+1) listed a w:=by
 subst ha;exact take_p (i:=i) d hi hd hs hf hr hQ hy hS h
theorem call_p {fuel:Nat} {listed:Array Bool} {a:Act} {w:World} {i:Nat} (d:Option Tmp) {o:Oper} (ho:ops[i]?=some o) (hd:o.dst=d) (hr:Region.ready md ops listed=[i]) (h:∀K':Act→World→Prop,Shut (∀a w,S w→(S w→wpAnyH P md ops Q S fuel (listed.setIfInBounds i true) a w)→K' a w)→if Region.wanted o (yielded ops a.tmps)=true then Oper.wp P o a w K' Q else K' (a.put d undef) w):wpAnyH P md ops Q S (fuel+1) listed a w:=by
 rw [←hd] at h;exact wpAnyH_ready hr (by simp) (AllReadyH.cons ho h AllReadyH.nil)
end
theorem oper_append1 {P:Program} {o:Oper} {a:Act} {w w':World} {K:Act→World→Prop} {Q:Exit→Act→World→Prop} {T1 T2:TypeId} {ad:Addr} {c:Nat} {v v':Value} (s x:Operand) (ho:o.op=.call { callee:=.builtin .append,args:=#[s,x],argTypes:=#[T1,T2] }) (hs:a.eval s=v) (hx:a.eval x=.slice (some ad) 1 c) (hr:(Builtin.append_ #[T1,T2] o.type #[v,.slice (some ad) 1 c]).run P w=.ok v' w') (hk:K (a.put o.dst v') w'):Oper.wp P o a w K Q:=by
 unfold Oper.wp execOp
 simp only [ho,resolve,invoke,builtin,Sem.run_bind,Sem.run_pure,Result.andThen_ok,List.map_toArray,List.map_cons,List.map_nil,hs,hx,hr]
 exact hk
def derU (p:List Rat) (j:Nat):List Rat:=((List.range j).map fun i=>co p i*((i:Int):Rat)).tail
theorem derU_succ (p:List Rat) {j:Nat} (h:0<j):derU p (j+1)=derU p j ++ [co p j*((j:Int):Rat)]:=by
 unfold derU;rw [List.range_succ,List.map_append,List.tail_append_of_ne_nil (by simp;omega)]
 rfl
theorem derU_len (p:List Rat) (j:Nat):(derU p j).length=j - 1:=by simp [derU]
theorem derU_get (p:List Rat) (j k:Nat):(derU p j)[k]?=if k+1<j then some (co p (k+1)*(((k+1:Nat):Int):Rat)) else none:=by
 unfold derU;rw [List.getElem?_tail,List.getElem?_map]
 by_cases h:k+1<j
 ·rw [List.getElem?_range h,if_pos h];rfl
 ·rw [List.getElem?_eq_none (by simpa using h),if_neg h];rfl
def derivF (p:List Rat):List Rat:=trimF (derU p p.length)
theorem co_deriv (p:List Rat) (k:Nat):co (derivF p) k=dco (co p) k:=by
 unfold derivF;rw [co_trim]
 show ((derU p p.length)[k]?).getD 0=_
 rw [derU_get]
 show _=co p (k+1)*((k+1:Nat):Rat)
 split
 ·rfl
 ·rw [co_ge (p:=p) (i:=k+1) (by omega)]
  show (0:Rat)=0*_
  rw [Rat.zero_mul]
theorem deriv_p (M:Nat) (hM0:0<M) (hM:M+64≤1099511627776) (vp:Value) (p:List Rat) (hl:p.length≤1000000) (w:World) (hp:Pl w vp p) (hb:∀q ∈ p,Bq M q):Calls Tryz.prog 73 #[vp] w fun e w'=>∃v',e=.returned v'∧PlN w.heap.size w' v' (derivF p)∧Ext w w':=by
 obtain⟨A,cap,rfl,hc,hA⟩:=id hp;obtain⟨n,hn⟩:∃n,p.length=n:=⟨_,rfl⟩;rw [hn];have HNL:=ZZ hn;have HL:=ZZ hl;have HB:=ZZ hb;have HM:=ZZ hM;have HA:=ZZ hA;clear hp hl hb hM hA hc hn
 go_enter Tryz.func73,Tryz.ntmps73
 go_wp2_with fail
 go_loopg [8,3] n (fun k i u wr=>∃j,Hid (j+k=n)∧i=.int .i64 (j:Int)∧Hid (OwnP wr w.heap.size u (derU p j))∧Hid (Ext w wr))
 case atStart=>exact⟨0,ZZ (Nat.zero_add _),rfl,ZZ (OwnP.nil _ _),ZZ (ae _)⟩
 case round=>
  obtain⟨j,HJ,rfl,HO,HE⟩:=hrel;rename World=>WR
  rcases Nat.eq_zero_or_pos gk with hz|hz
  ·subst hz
   obtain rfl:j=n:=HJ.out;have q1:decide ((j:Int)<(j:Int))=false:=decide_eq_false (Int.lt_irrefl _);go_wp2_with fail;refine(trim_q _ (derU p j) (by have h1:=HL.out;have h2:=HNL.out;rw [derU_len];omega) _ HO.out.pl).mono ?_;rintro e w' ⟨v',rfl,hn,kk⟩;rw [show trimF (derU p j)=derivF p by unfold derivF;rw [HNL.out]] at hn;have HN:=ZZ hn;have HK2:=ZZ kk;clear hn kk;go_wp2_with fail;go_ret;refine⟨_,rfl,?_,al HE.out HK2.out⟩
   rcases HN.out with hn|⟨g,hg,hn⟩
   ·exact .inl hn
   ·exact .inr ⟨g,Nat.le_trans HE.out.size hg,hn⟩
  ·have hjn:j<n:=by have:=HJ.out;omega
   have hjp:j<p.length:=by rw [HNL.out];exact hjn
   have q1:decide ((j:Int)<(n:Int))=true:=decide_eq_true (by omega);have q1':decide (j<n)=true:=decide_eq_true hjn;have q4:(j:Int)<(n:Int):=by omega
   have q5:(0:Int)≤(j:Int):=by omega
   rcases HA.out with ⟨-,h5⟩|⟨b,o,rfl,ht⟩
   ·rw [h5] at hjp;simp at hjp
   have hq:p[j]?=some (co p j):=by unfold co;rw [List.getElem?_eq_getElem hjp];rfl
   obtain⟨s1,A1,k1,ca1,B1,l1,cb1,c0,c1,c2,hcn⟩:=(ht j _ hq).mono HE.out;have BC:=ZZ (HB.out _ (List.mem_of_getElem? hq));have BJ:=ZZ (show Bq 64 ((j:Int):Rat) from bq_int _ (by omega) (by have h1:=HL.out;omega));have E6:=ZZ (ab WR (.cells #[.bool s1,.slice A1 k1 ca1,.slice B1 l1 cb1] 38));have NC:=ZZ (hcn.mono (ab WR (.cells #[.bool s1,.slice A1 k1 ca1,.slice B1 l1 cb1] 38)));have RC:=ZZ (heap_alloc_new WR (.cells #[.bool s1,.slice A1 k1 ca1,.slice B1 l1 cb1] 38));have HZ:=ZZ hz;have HJN:=ZZ hjp;clear hq hcn ht hz hjp
   go_upto_region 5 with (fail)
   generalize World.alloc WR (.cells #[.bool s1,.slice A1 k1 ca1,.slice B1 l1 cb1] _)=W6 at *
   have HGC:=ZZ (show ∀g,u3.ownBlock=some g→g≠WR.heap.size from fun g hg e=>by
    obtain⟨xs,ho,-⟩:=HO.out
    have:=(ho.lt g hg).2
    omega)
   generalize WR.heap.size=gc at *
   rcases Nat.eq_zero_or_pos j with h0|h0
   ·subst h0
    have z0:decide ((0:Int)<((0:Nat):Int))=false:=rfl;go_wp2_with fail
    go_roundg (gk - 1)
    case measure=>have:=HZ.out;omega
    case rel=>exact⟨1,ZZ (by have:=HJ.out;have:=HZ.out;omega),rfl,ZZ (HO.out.mono E6.out),ZZ (al HE.out E6.out)⟩
   ·have z0:decide ((0:Int)<(j:Int))=true:=decide_eq_true (by omega)
    have z0':decide (0<j)=true:=decide_eq_true h0;have H0:=ZZ h0;clear h0
    have HC:=ZZ (show ∀W,Ext W6 W→W.cell? ⟨gc,0,none⟩=some (.bool s1)∧W.cell? ⟨gc,1,none⟩=some (.slice A1 k1 ca1)∧W.cell? ⟨gc,2,none⟩=some (.slice B1 l1 cb1) from fun W k=>by
     obtain⟨y0,y1,y2,-⟩:=aj ((k.block _ (lt_of_block RC.out)).trans RC.out);exact⟨y0,y1,y2⟩)
    clear c0 c1 c2
    go_upto_region 6 with (fail)
    have hun:undef=.tuple #[]:=rfl;refine wp_region_noPanic ?_;refine wp_region_held_drew (S:=fun W=>W.cell? ⟨gc,0,none⟩=some (.bool s1)∧W.cell? ⟨gc,1,none⟩=some (.slice A1 k1 ca1)∧W.cell? ⟨gc,2,none⟩=some (.slice B1 l1 cb1)) (by kernel_rfl) (HC.out _ (ac _)) (fun hHeld=>?_);refine take_a 0 15 ?_;refine take_a 1 16 ?_;refine take_a 2 17 ?_;refine call_p (i:=3) (some 18) rfl rfl (by kernel_rfl) (fun K hK=>?_)
    go_simp
    go_at_call 15
    refine(int_q (j:Int) (by have h1:=HL.out;have h2:=HJN.out;have h3:=HNL.out;omega) (by have h1:=HL.out;have h2:=HJN.out;have h3:=HNL.out;omega) _).mono ?_;rintro e w4 ⟨v4,rfl,h4,kk4⟩;obtain⟨s4,A4,k4,ca4,B4,l4,cb4,rfl⟩:=h4.form2;have H4:=ZZ h4;have hx1:=ZZ (show Ext W6 w4 from al (ac _) kk4);clear h4 kk4
    try go_wp2_with fail
    refine hK.out _ _ (HC.out _ hx1.out) (fun hHeld=>?_);clear hK K
    try simp only [Act.put,lyA,lyB,lyC]
    refine call_p (i:=4) (some 19) rfl rfl (by kernel_rfl) (fun K hK=>?_)
    go_simp
    go_at_call 22
    refine(mul_q (M+64) HM.out _ _ (co p j) ((j:Int):Rat) _ (NC.out.mono hx1.out) H4.out (BC.out.mono (by omega)) (BJ.out.mono (by omega))).mono ?_;rintro e w5 ⟨v5,rfl,h5,kk5⟩;obtain⟨s5,A5,k5,ca5,B5,l5,cb5,rfl⟩:=h5.form2;have H5:=ZZ (h5.mono (ab w5 (.cells #[.bool s5,.slice A5 k5 ca5,.slice B5 l5 cb5] 38)));have hx2:=ZZ (al hx1.out kk5);have hx3:=ZZ (al hx2.out (ab w5 (.cells #[.bool s5,.slice A5 k5 ca5,.slice B5 l5 cb5] 38)));obtain⟨xs,hown,hxs⟩:=HO.out.mono (al E6.out hx3.out);have HXS:=ZZ hxs;have HOWN:=ZZ hown;have C3:=ZZ (cells3_new w5 (.bool s5) (.slice A5 k5 ca5) (.slice B5 l5 cb5) 38);clear h5 kk5 hown hxs
    try go_wp2_with fail
    refine hK.out _ _ (HC.out _ hx2.out) (fun hHeld=>?_);clear hK K
    try simp only [Act.put,lyA,lyB,lyC]
    refine call_p (i:=5) (some 20) rfl rfl (by kernel_rfl) (fun K hK=>?_)
    go_simp
    refine hK.out _ _ (HC.out _ hx3.out) (fun hHeld=>?_);clear hK K
    try simp only [Act.put,lyA,lyB,lyC]
    refine call_p (i:=6) (some 21) rfl rfl (by kernel_rfl) (fun K hK=>?_);refine(if_pos (show Region.wanted _ _=true from rfl)).mpr ?_;obtain⟨v7,w7,hr7,hown7,hgrow7⟩:=run_append1 (w5.alloc (.cells #[.bool s5,.slice A5 k5 ca5,.slice B5 l5 cb5] 38)) w.heap.size 27 _ (derU p j).length xs HOWN.out ⟨w5.heap.size,0,none⟩ 1 [.bool s5,.slice A5 k5 ca5,.slice B5 l5 cb5] rfl C3.out (by intro u hu;simp at hu;rcases hu with rfl|rfl|rfl <;> rfl) (by intro u hu z he;subst he;simp at hu) (by have h1:=HL.out;have h2:=HJN.out;rw [derU_len];omega) (al HE.out (al E6.out hx3.out)).size;have HOWN7:=ZZ hown7;have HGR7:=ZZ hgrow7;refine oper_append1 (.tmp 15) (.tmp 20) rfl rfl rfl hr7 ?_;clear hown7 hgrow7 hr7;refine hK.out _ _ (by obtain⟨y0,y1,y2⟩:=HC.out _ hx3.out;exact⟨HGR7.out.cell y0 (fun e=>HGC.out _ e.symm rfl),HGR7.out.cell y1 (fun e=>HGC.out _ e.symm rfl),HGR7.out.cell y2 (fun e=>HGC.out _ e.symm rfl)⟩) (fun hHeld=>?_);clear hK K
    try simp only [Act.put,lyA,lyB,lyC]
    refine take_a 7 3 ?_;refine wpAnyH_done (by kernel_rfl) ?_ _;refine NoPanic.normal ?_;have HP7:=ZZ (OwnP.snoc HOWN.out HXS.out H5.out HGR7.out HOWN7.out);have E7:=ZZ (ext_grown1 (al HE.out (al E6.out hx3.out)) HOWN.out HGR7.out);go_wp2_with fail
    go_roundg (gk - 1)
    case measure=>have:=HZ.out;omega
    case rel=>
     refine⟨j+1,ZZ (by have:=HJ.out;have:=HZ.out;omega),by have h1:=HL.out;have h2:=HJN.out;rw [IntWalk.wrap64_in _ ⟨by omega,by omega⟩];rfl,ZZ ?_,ZZ E7.out⟩;rw [derU_succ p H0.out];exact HP7.out
end Go.Proofs.YtkoaakefgacokaaGreatDoor
