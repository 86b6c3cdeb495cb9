/- Products of polynomials: the walk. Printed by gen_qn.py. -/
import Derived.Test.YtjamgccgoapbeaaGreatDoorGQr
import Derived.Laws.MakeOwn
set_option linter.unusedVariables false
set_option maxRecDepth 100000
set_option maxHeartbeats 64000000
namespace Go.Proofs.YtjamgccgoapbeaaGreatDoor
open Go.RowKit
def zrw (n:Nat):Array Value:=madeCells #[.bool false,.slice none 0 0,.slice none 0 0] (n*3)
theorem mk_nums (n:Nat) (z:Int) (hz:z=(n:Int)) (hn:n≤1000000) (w:World):(Instr.makeSlice 22 (.int .i64 z) (.int .i64 z)).run Tryz.prog w=.ok (.slice (some ⟨w.heap.size,0,none⟩) n n) (w.alloc (.cells (zrw n) 35)):=by
 subst hz;obtain⟨i,hi,h1,h2,h3⟩:=info_parts info_num;have h:=run_make (P:=Tryz.prog) w 22 35 i _ Tryz.underlying22 hi h1 .i64 .i64 (n:Int) (n:Int) (by omega) (Int.le_refl _) (by rw [h3];omega) (by omega);rw [h,h2]
 rfl
theorem zrw_get (n i:Nat) (hi:i<n):(zrw n)[i*3]?=some (.bool false)∧(zrw n)[i*3+1]?=some (.slice none 0 0)∧(zrw n)[i*3+2]?=some (.slice none 0 0):=by
 have key:∀r,r<3→(zrw n)[i*3+r]?=some ((#[Value.bool false,Value.slice none 0 0,Value.slice none 0 0]:Array Value)[(i*3+r) % 3]!):=fun r hr=>by
  unfold zrw madeCells;rw [Array.getElem?_map,Array.getElem?_range,if_pos (by omega)]
  rfl
 refine⟨?_,?_,?_⟩
 ·have h:=key 0 (by decide);rw [show (i*3+0) % 3=0 by omega] at h;exact h
 ·have h:=key 1 (by decide);rw [show (i*3+1) % 3=1 by omega] at h;exact h
 ·have h:=key 2 (by decide);rw [show (i*3+2) % 3=2 by omega] at h;exact h
theorem plo_new (w:World) (n:Nat) (hn:n≤1000000):PlO (w.alloc (.cells (zrw n) 35)) w.heap.size (.slice (some ⟨w.heap.size,0,none⟩) n n) (List.replicate n 0):=by
 have hr:=heap_alloc_new w (.cells (zrw n) 35);refine⟨n,zrw n,by rw [List.length_replicate],hr,by rw [List.length_replicate];exact Nat.le_refl _,by unfold maxLen;omega,size_madeCells _ _,fun i q hq=>?_⟩;rw [List.getElem?_replicate] at hq
 split at hq
 ·rename_i hi
  obtain rfl:(0:Rat)=q:=Option.some.inj hq;obtain⟨z0,z1,z2⟩:=zrw_get n i hi;exact⟨_,_,_,_,_,_,_,by rw [cell_of_row _ _ _ _ _ _ hr];exact z0,by rw [cell_of_row _ _ _ _ _ _ hr];exact z1,by rw [cell_of_row _ _ _ _ _ _ hr];exact z2,Nm.zero _⟩
 ·cases hq
theorem PlO.mono {w w':World} {g:Nat} {v:Value} {l:List Rat} (h:PlO w g v l) (k:Ext w w'):PlO w' g v l:=by
 obtain⟨cp,cur,e,hh,h1,h2,h3,h4⟩:=h;exact⟨cp,cur,e,(k.block _ (lt_of_block hh)).trans hh,h1,h2,h3,fun i r hr=>(h4 i r hr).mono k⟩
theorem mul_p (M:Nat) (hM:0<M) (vp vq:Value) (p q:List Rat) (hlp:p.length≤100000) (hlq:q.length≤100000) (hK:p.length*(M+M+1)+1≤1099511627776) (w:World) (hp:Pl w vp p) (hq:Pl w vq q) (hbp:∀x ∈ p,Bq M x) (hbq:∀x ∈ q,Bq M x):Calls Tryz.prog 32 #[vp,vq] w fun e w'=>∃v',e=.returned v'∧PlN w.heap.size w' v' (mulF p q)∧Ext w w':=by
 obtain⟨A,cap,rfl,hc,hA⟩:=id hp;obtain⟨C,cap2,rfl,hc2,hC⟩:=id hq;obtain⟨m,hm⟩:∃m,p.length=m:=⟨_,rfl⟩;obtain⟨n,hn⟩:∃n,q.length=n:=⟨_,rfl⟩;rw [hm,hn]
 have q3:IntKind.i64.wrap ((m:Int)+(n:Int))=((m+n:Nat):Int):=by
  rw [show (m:Int)+(n:Int)=((m+n:Nat):Int) by omega];exact IntWalk.i64_in _ (by omega)
 have qmk:=mk_nums (m+n) ((m+n:Nat):Int) rfl (by omega) w;have qmk2:=mk_nums (m+n) ((m:Int)+(n:Int)) (by omega) (by omega) w;have PO1:=ZZ (plo_new w (m+n) (by omega));have HMM:=ZZ hm;have HNN:=ZZ hn;have HLP:=ZZ hlp;have HLQ:=ZZ hlq;have HAA:=ZZ hA;have HCC:=ZZ hC;have HBP:=ZZ hbp;have HBQ:=ZZ hbq;have HM0:=ZZ hM;have HK:=ZZ hK
 have HMK:=ZZ (show p.length≠0→M+M≤p.length*(M+M+1)+1 from fun h=>by
  have:1*(M+M+1)≤p.length*(M+M+1):=Nat.mul_le_mul_right _ (by omega)
  omega)
 clear hp hq hlp hlq hm hn hA hC hc hc2 hbp hbq hM hK
 go_enter Tryz.func32,Tryz.ntmps32
 go_upto_region 2 with (fail)
 have E1:=ZZ (ab w (.cells (zrw (m+n)) 35));generalize World.alloc w (.cells (zrw (m+n)) _)=W1 at *;obtain⟨g,hg⟩:∃g,w.heap.size=g:=⟨_,rfl⟩;have PO1:=ZZ (show PlO W1 g (.slice (some ⟨g,0,none⟩) (m+n) (m+n)) (List.replicate (m+n) 0) from hg ▸ PO1.out);have HG:=ZZ hg;rw [hg];clear hg;go_wp2_with fail
 go_loopg [18] m (fun k u wr=>∃i,Hid (i+k=m)∧u=.int .i64 (i:Int)∧Hid (PlO wr g (.slice (some ⟨g,0,none⟩) (m+n) (m+n)) (accL p q i 0))∧Hid (Ext w wr))
 case atStart=>exact⟨0,ZZ (Nat.zero_add _),rfl,ZZ (by rw [acc_zero,HMM.out,HNN.out];exact PO1.out),E1⟩
 case round=>
  obtain⟨i,HI,rfl,HO,HE⟩:=hrel;rename World=>WR
  rcases Nat.eq_zero_or_pos gk with hz|hz
  ·subst hz
   obtain rfl:i=m:=HI.out;have q1:decide ((i:Int)<(i:Int))=false:=decide_eq_false (Int.lt_irrefl _);go_wp2_with fail;refine(trim_q _ (accL p q i 0) (by rw [acc_len,HMM.out,HNN.out];have h1:=HLP.out;have h2:=HLQ.out;rw [HMM.out] at h1;rw [HNN.out] at h2;omega) _ (by have h:=HO.out.pl;exact h)).mono ?_;rintro e w' ⟨v',rfl,hn,kk⟩;rw [show trimF (accL p q i 0)=mulF p q by rw [←mulF_acc p q,HMM.out]] at hn;have HN:=ZZ hn;have HK2:=ZZ kk;clear hn kk;go_wp2_with fail;go_ret;refine⟨_,rfl,?_,ak HE.out HK2.out⟩
   rcases HN.out with hn|⟨g,hg,hn⟩
   ·exact .inl hn
   ·refine .inr ⟨g,?_,hn⟩
    have h1:=HE.out.size;have h2:=HG.out;omega
  ·have him:i<m:=by have:=HI.out;omega
   have hip:i<p.length:=by rw [HMM.out];exact him
   have q1:decide ((i:Int)<(m:Int))=true:=decide_eq_true (by omega);have q4:(i:Int)<(m:Int):=by omega
   have q5:(0:Int)≤(i:Int):=by omega
   rcases HAA.out with ⟨-,h5⟩|⟨b,o,rfl,ht⟩
   ·rw [h5] at hip;simp at hip
   have hp2:p[i]?=some (co p i):=by unfold co;rw [List.getElem?_eq_getElem hip];rfl
   obtain⟨s1,A1,k1,ca1,B1,l1,cb1,c0,c1,c2,hn1⟩:=(ht i _ hp2).mono HE.out;obtain⟨c,hcs⟩:∃c,(co p i).num.sign=c:=⟨_,rfl⟩;have HCS:=ZZ hcs;have BA:=ZZ (HBP.out (co p i) (List.mem_of_getElem? hp2));have HA1:=ZZ (hn1.mono (ab WR (.cells #[.bool s1,.slice A1 k1 ca1,.slice B1 l1 cb1] 35)));have EA:=ZZ (ab WR (.cells #[.bool s1,.slice A1 k1 ca1,.slice B1 l1 cb1] 35));have RA:=ZZ (heap_alloc_new WR (.cells #[.bool s1,.slice A1 k1 ca1,.slice B1 l1 cb1] 35));have HZ:=ZZ hz;have HIP:=ZZ hip;clear hn1 hp2 ht hcs hz hip
   go_upto_region 5 with (fail)
   generalize World.alloc WR (.cells #[.bool s1,.slice A1 k1 ca1,.slice B1 l1 cb1] _)=W3 at *;have HGA:=ZZ (show WR.heap.size≠g from fun e=>by obtain⟨cp,cur,-,hh,-⟩:=HO.out;have:=lt_of_block hh;omega);generalize WR.heap.size=ga at *;obtain⟨a0,a1,a2,-⟩:=aj RA.out;go_wp2_with fail;refine(sign_q' _ (co p i) _ c HCS.out HA1.out).mono ?_;rintro e w4 ⟨rfl,k4⟩;have K4:=ZZ k4;clear c0 c1 c2 a0 a1 a2 k4
   by_cases hc0:c=0
   ·subst hc0
    have z0:((0:Int) == 0)=true:=rfl;have HZ0:=ZZ ((num_zero_iff HCS.out).1 rfl);go_wp2_with fail
    go_roundg (gk - 1)
    case measure=>have:=HZ.out;omega
    case rel=>exact⟨i+1,ZZ (by have:=HI.out;have:=HZ.out;omega),by have h1:=HLP.out;have h2:=HIP.out;rw [IntWalk.wrap64_in _ ⟨by omega,by omega⟩];rfl,ZZ (by rw [←acc_skip p q i HZ0.out];exact HO.out.mono (ak EA.out K4.out)),ZZ (ak HE.out (ak EA.out K4.out))⟩
   ·have z0:(c == 0)=false:=beq_eq_false_iff_ne.2 hc0
    clear hc0;have PW:=ZZ (HO.out.mono (ak EA.out K4.out));have EW4:=ZZ (ak HE.out (ak EA.out K4.out));have NA0:=ZZ (HA1.out.mono K4.out);have RA4:=ZZ ((K4.out.block _ (lt_of_block RA.out)).trans RA.out);go_wp2_with fail;obtain⟨ko,rfl⟩:∃ko,ko=gk:=⟨_,rfl⟩
    go_loopg [28] n (fun k u wr=>∃j,Hid (j+k=n)∧u=.int .i64 (j:Int)∧Hid (PlO wr g (.slice (some ⟨g,0,none⟩) (m+n) (m+n)) (accL p q i j))∧Hid (Ext w wr)∧Hid (wr.heap[ga]?=some (.cells #[.bool s1,.slice A1 k1 ca1,.slice B1 l1 cb1] 35 (0,0)))∧Hid (Nm wr (.agg #[.bool s1,.slice A1 k1 ca1,.slice B1 l1 cb1]) (co p i)))
    case atStart=>exact⟨0,ZZ (Nat.zero_add _),rfl,PW,EW4,RA4,NA0⟩
    case round=>
     obtain⟨j,HJ,rfl,HO2,HE2,RG,NA⟩:=hrel;rename World=>WI
     rcases Nat.eq_zero_or_pos gk with hz2|hz2
     ·subst hz2
      obtain rfl:j=n:=HJ.out;have q1n:decide ((j:Int)<(j:Int))=false:=decide_eq_false (Int.lt_irrefl _);go_wp2_with fail
      go_roundg (ko - 1)
      case measure=>have:=HZ.out;omega
      case rel=>exact⟨i+1,ZZ (by have:=HI.out;have:=HZ.out;omega),by have h1:=HLP.out;have h2:=HIP.out;rw [IntWalk.wrap64_in _ ⟨by omega,by omega⟩];rfl,ZZ (by rw [←acc_next p q i,HNN.out];exact HO2.out),HE2⟩
     ·have hjn:j<n:=by have:=HJ.out;omega
      have hjq:j<q.length:=by rw [HNN.out];exact hjn
      have q1n:decide ((j:Int)<(n:Int))=true:=decide_eq_true (by omega);have q1n':decide (j<n)=true:=decide_eq_true hjn;have q4n:(j:Int)<(n:Int):=by omega
      have q5n:(0:Int)≤(j:Int):=by omega
      have q6:IntKind.i64.wrap ((i:Int)+(j:Int))=(i:Int)+(j:Int):=by
       have h1:=HLP.out;have h2:=HLQ.out;have h3:=HIP.out;exact IntWalk.i64_in _ (by omega)
      have q7:(i:Int)+(j:Int)<(m:Int)+(n:Int):=by have h1:=HMM.out;have h2:=HIP.out;omega
      have q8:(0:Int)≤(i:Int)+(j:Int):=by omega
      have q9:((i:Int)+(j:Int)).toNat=i+j:=by omega
      rcases HCC.out with ⟨-,h5⟩|⟨b2,o2,rfl,ht2⟩
      ·rw [h5] at hjq;simp at hjq
      have hq2:q[j]?=some (co q j):=by unfold co;rw [List.getElem?_eq_getElem hjq];rfl
      obtain⟨s2,A2,k2,ca2,B2,l2,cb2,c0,c1,c2,hn2⟩:=(ht2 j _ hq2).mono HE2.out;have BQ2:=ZZ (HBQ.out (co q j) (List.mem_of_getElem? hq2));have BQ3:=ZZ (show Bq (p.length*(M+M+1)+1) (pcv (co p) (co q) i (i+j)) from (pcv_bq (bq_co HM0.out HBP.out) (bq_co HM0.out HBQ.out) i (i+j)).mono (Nat.add_le_add_right (Nat.mul_le_mul_right _ (Nat.le_of_lt HIP.out)) 1));have E6:=ZZ (ab WI (.cells #[.bool s2,.slice A2 k2 ca2,.slice B2 l2 cb2] 35));have N2:=ZZ (hn2.mono (ab WI (.cells #[.bool s2,.slice A2 k2 ca2,.slice B2 l2 cb2] 35)));have R7:=ZZ (heap_alloc_new WI (.cells #[.bool s2,.slice A2 k2 ca2,.slice B2 l2 cb2] 35));have HZ2:=ZZ hz2;have HJQ:=ZZ hjq;clear hn2 hq2 ht2 hz2 hjq
      go_upto_region 9 with (fail)
      generalize World.alloc WI (.cells #[.bool s2,.slice A2 k2 ca2,.slice B2 l2 cb2] _)=W6 at *;generalize WI.heap.size=g7 at *;have PO:=ZZ (show ∀W,Ext W6 W→PlO W g (.slice (some ⟨g,0,none⟩) (m+n) (m+n)) (accL p q i j) from fun W k=>HO2.out.mono (ak E6.out k));obtain⟨-,-,-,-,-,-,-,h4⟩:=PO.out W6 (ae _);obtain⟨s3,A3,k3,ca3,B3,l3,cb3,d0,d1,d2,hn3⟩:=h4 (i+j) _ (acc_at p q HIP.out HJQ.out);have N3:=ZZ hn3
      have HC:=ZZ (show ∀W,Ext W6 W→W.cell? ⟨g,(i+j)*3,none⟩=some (.bool s3)∧W.cell? ⟨g,(i+j)*3+1,none⟩=some (.slice A3 k3 ca3)∧W.cell? ⟨g,(i+j)*3+2,none⟩=some (.slice B3 l3 cb3)∧W.cell? ⟨ga,0,none⟩=some (.bool s1)∧W.cell? ⟨ga,1,none⟩=some (.slice A1 k1 ca1)∧W.cell? ⟨ga,2,none⟩=some (.slice B1 l1 cb1)∧W.cell? ⟨g7,0,none⟩=some (.bool s2)∧W.cell? ⟨g7,1,none⟩=some (.slice A2 k2 ca2)∧W.cell? ⟨g7,2,none⟩=some (.slice B2 l2 cb2) from fun W k=>by
       obtain⟨y0,y1,y2,-⟩:=aj ((k.block _ (lt_of_block R7.out)).trans R7.out);have kk:=ak E6.out k;obtain⟨x0,x1,x2,-⟩:=aj ((kk.block _ (lt_of_block RG.out)).trans RG.out);exact⟨ao k d0,ao k d1,ao k d2,x0,x1,x2,y0,y1,y2⟩)
      clear c0 c1 c2 d0 d1 d2 hn3 h4;have hun:undef=.tuple #[]:=rfl;have HK1:=HK;have HM1:=ZZ (show M≤1099511627776 from by have h1:=HMK.out;have h2:=HIP.out;have h3:=HK.out;have h4:=h1 (by omega);omega);refine wp_region_noPanic ?_;refine region_L (S:=fun W=>W.cell? ⟨g,(i+j)*3,none⟩=some (.bool s3)∧W.cell? ⟨g,(i+j)*3+1,none⟩=some (.slice A3 k3 ca3)∧W.cell? ⟨g,(i+j)*3+2,none⟩=some (.slice B3 l3 cb3)∧W.cell? ⟨ga,0,none⟩=some (.bool s1)∧W.cell? ⟨ga,1,none⟩=some (.slice A1 k1 ca1)∧W.cell? ⟨ga,2,none⟩=some (.slice B1 l1 cb1)∧W.cell? ⟨g7,0,none⟩=some (.bool s2)∧W.cell? ⟨g7,1,none⟩=some (.slice A2 k2 ca2)∧W.cell? ⟨g7,2,none⟩=some (.slice B2 l2 cb2)) 15 (by kernel_rfl) (HC.out _ (ac _)) (fun hHeld=>?_);refine take_L (i:=0) 33 (v:=?vv0) rfl rfl (by kernel_rfl) (by kernel_rfl) (by kernel_rfl) (by kernel_rfl) (fun _ _ _ h=>h) (Or.inl ⟨rfl,?hy0⟩) (by assumption) ?rr0
      case hy0=>(intro w hSw;(try dsimp only at hSw);go_simp;try with_reducible rfl)
      try simp only [Act.put,lyA,lyB,lyC]
      refine take_L (i:=1) 34 (v:=?vv1) rfl rfl (by kernel_rfl) (by kernel_rfl) (by kernel_rfl) (by kernel_rfl) (fun _ _ _ h=>h) (Or.inl ⟨rfl,?hy1⟩) (by assumption) ?rr1
      case hy1=>(intro w hSw;(try dsimp only at hSw);go_simp;try with_reducible rfl)
      try simp only [Act.put,lyA,lyB,lyC]
      refine take_L (i:=2) 35 (v:=?vv2) rfl rfl (by kernel_rfl) (by kernel_rfl) (by kernel_rfl) (by kernel_rfl) (fun _ _ _ h=>h) (Or.inl ⟨rfl,?hy2⟩) (by assumption) ?rr2
      case hy2=>(intro w hSw;(try dsimp only at hSw);go_simp;try with_reducible rfl)
      try simp only [Act.put,lyA,lyB,lyC]
      refine take_L (i:=3) 36 (v:=?vv3) rfl rfl (by kernel_rfl) (by kernel_rfl) (by kernel_rfl) (by kernel_rfl) (fun _ _ _ h=>h) (Or.inl ⟨rfl,?hy3⟩) (by assumption) ?rr3
      case hy3=>(intro w hSw;(try dsimp only at hSw);go_simp;try with_reducible rfl)
      try simp only [Act.put,lyA,lyB,lyC]
      refine take_L (i:=4) 37 (v:=?vv4) rfl rfl (by kernel_rfl) (by kernel_rfl) (by kernel_rfl) (by kernel_rfl) (fun _ _ _ h=>h) (Or.inl ⟨rfl,?hy4⟩) (by assumption) ?rr4
      case hy4=>(intro w hSw;(try dsimp only at hSw);go_simp;try with_reducible rfl)
      try simp only [Act.put,lyA,lyB,lyC]
      refine take_L (i:=5) 38 (v:=?vv5) rfl rfl (by kernel_rfl) (by kernel_rfl) (by kernel_rfl) (by kernel_rfl) (fun _ _ _ h=>h) (Or.inl ⟨rfl,?hy5⟩) (by assumption) ?rr5
      case hy5=>(intro w hSw;(try dsimp only at hSw);go_simp;try with_reducible rfl)
      try simp only [Act.put,lyA,lyB,lyC]
      refine take_L (i:=6) 39 (v:=?vv6) rfl rfl (by kernel_rfl) (by kernel_rfl) (by kernel_rfl) (by kernel_rfl) (fun _ _ _ h=>h) (Or.inl ⟨rfl,?hy6⟩) (by assumption) ?rr6
      case hy6=>(intro w hSw;(try dsimp only at hSw);go_simp;try with_reducible rfl)
      try simp only [Act.put,lyA,lyB,lyC]
      refine take_L (i:=7) 40 (v:=?vv7) rfl rfl (by kernel_rfl) (by kernel_rfl) (by kernel_rfl) (by kernel_rfl) (fun _ _ _ h=>h) (Or.inl ⟨rfl,?hy7⟩) (by assumption) ?rr7
      case hy7=>(intro w hSw;(try dsimp only at hSw);go_simp;try with_reducible rfl)
      try simp only [Act.put,lyA,lyB,lyC]
      refine take_L (i:=8) 41 (v:=?vv8) rfl rfl (by kernel_rfl) (by kernel_rfl) (by kernel_rfl) (by kernel_rfl) (fun _ _ _ h=>h) (Or.inl ⟨rfl,?hy8⟩) (by assumption) ?rr8
      case hy8=>(intro w hSw;(try dsimp only at hSw);go_simp;try with_reducible rfl)
      try simp only [Act.put,lyA,lyB,lyC]
      refine take_L (i:=9) 42 (v:=?vv9) rfl rfl (by kernel_rfl) (by kernel_rfl) (by kernel_rfl) (by kernel_rfl) (fun _ _ _ h=>h) (Or.inl ⟨rfl,?hy9⟩) (by assumption) ?rr9
      case hy9=>(intro w hSw;(try dsimp only at hSw);go_simp;try with_reducible rfl)
      try simp only [Act.put,lyA,lyB,lyC]
      refine take_L (i:=10) 43 (v:=?vv10) rfl rfl (by kernel_rfl) (by kernel_rfl) (by kernel_rfl) (by kernel_rfl) (fun _ _ _ h=>h) (Or.inl ⟨rfl,?hy10⟩) (by assumption) ?rr10
      case hy10=>(intro w hSw;(try dsimp only at hSw);go_simp;try with_reducible rfl)
      try simp only [Act.put,lyA,lyB,lyC]
      refine take_L (i:=11) 44 (v:=?vv11) rfl rfl (by kernel_rfl) (by kernel_rfl) (by kernel_rfl) (by kernel_rfl) (fun _ _ _ h=>h) (Or.inl ⟨rfl,?hy11⟩) (by assumption) ?rr11
      case hy11=>(intro w hSw;(try dsimp only at hSw);go_simp;try with_reducible rfl)
      try simp only [Act.put,lyA,lyB,lyC]
      refine call_L (i:=12) 45 rfl rfl (by kernel_rfl) (fun K hK=>?_)
      go_simp
      go_at_call 45
      refine(mul_q M HM1.out _ _ (co p i) (co q j) _ (NA.out.mono (ak E6.out (ac _))) (N2.out.mono (ac _)) BA.out BQ2.out).mono ?_;rintro e w4 ⟨v4,rfl,h4,kk4⟩;obtain⟨s4,A4,k4,ca4,B4,l4,cb4,rfl⟩:=h4.form2;have H4:=ZZ h4;have hx1:=ZZ (show Ext W6 w4 from ak (ac _) kk4);clear h4 kk4
      try go_wp2_with fail
      refine hK.out _ _ (HC.out _ hx1.out) (fun hHeld=>?_);clear hK K
      try simp only [Act.put,lyA,lyB,lyC]
      refine call_L (i:=13) 46 rfl rfl (by kernel_rfl) (fun K hK=>?_)
      go_simp
      go_at_call 44
      refine(add_q (p.length*(M+M+1)+1) HK.out _ _ (pcv (co p) (co q) i (i+j)) (co p i*co q j) _ (N3.out.mono hx1.out) H4.out BQ3.out ((BA.out.mul BQ2.out).mono (HMK.out (by have:=HIP.out;omega)))).mono ?_;rintro e w5 ⟨v5,rfl,h5,kk5⟩;obtain⟨s5,A5,k5,ca5,B5,l5,cb5,rfl⟩:=h5.form2;have H5:=ZZ h5;have hx2:=ZZ (ak hx1.out kk5);clear h5 kk5
      try go_wp2_with fail
      refine hK.out _ _ (HC.out _ hx2.out) (fun hHeld=>?_);clear hK K
      try simp only [Act.put,lyA,lyB,lyC]
      refine take_L (i:=14) 47 (v:=?vv14) rfl rfl (by kernel_rfl) (by kernel_rfl) (by kernel_rfl) (by kernel_rfl) (fun _ _ _ h=>h) (Or.inl ⟨rfl,?hy14⟩) (by assumption) ?rr14
      case hy14=>(intro w hSw;(try dsimp only at hSw);go_simp;try with_reducible rfl)
      try simp only [Act.put,lyA,lyB,lyC]
      refine last_L rfl (by kernel_rfl) (by kernel_rfl) (fun K hK=>?_);have hp5:=PO.out w5 hx2.out;obtain⟨-,cur5,-,hh5,-⟩:=id hp5;have zf0:=frozen_row hh5 ((i+j)*3);have zf1:=frozen_row hh5 ((i+j)*3+1);have zf2:=frozen_row hh5 ((i+j)*3+2);obtain⟨z0,z1,z2,-⟩:=HC.out w5 hx2.out;clear hp5 hh5
      go_simp
      refine hK.out _ _ ?_;clear hK K
      try simp only [Act.put,lyA,lyB,lyC]
      refine NoPanic.normal ?_;have HP7:=ZZ (PlO.set (PO.out w5 hx2.out) (i:=i+j) (by rw [acc_len];have h1:=HIP.out;have h2:=HJQ.out;omega) H5.out);have E7:=ZZ (show Ext w (put3at w5 g ((i+j)*3) (.bool s5) (.slice A5 k5 ca5) (.slice B5 l5 cb5)) from by have hgw:w.heap.size≤g:=Nat.le_of_eq HG.out;exact(((ak HE2.out (ak E6.out hx2.out)).setCell hgw _).setCell hgw _).setCell hgw _);have PX:=PO.out w5 hx2.out
      have RG7:=ZZ (show (put3at w5 g ((i+j)*3) (.bool s5) (.slice A5 k5 ca5) (.slice B5 l5 cb5)).heap[ga]?=some (.cells #[.bool s1,.slice A1 k1 ca1,.slice B1 l1 cb1] 35 (0,0)) from by
       have kk:=ak E6.out hx2.out;have h1:=(kk.block _ (lt_of_block RG.out)).trans RG.out;unfold put3at;rw [Below.heap_setCell _ _ _ _ HGA.out,Below.heap_setCell _ _ _ _ HGA.out,Below.heap_setCell _ _ _ _ HGA.out];exact h1)
      have NA7:=ZZ (Nm.put3at (NA.out.mono (ak E6.out hx2.out)) PX (i:=i+j) (by rw [acc_len];have h1:=HIP.out;have h2:=HJQ.out;omega) (.bool s5) (.slice A5 k5 ca5) (.slice B5 l5 cb5));clear PX;go_wp2_with fail
      go_roundg (gk - 1)
      case measure=>have:=HZ2.out;omega
      case rel=>
       refine⟨j+1,ZZ (by have:=HJ.out;have:=HZ2.out;omega),by have h1:=HLQ.out;have h2:=HJQ.out;rw [IntWalk.wrap64_in _ ⟨by omega,by omega⟩];rfl,ZZ ?_,E7,RG7,NA7⟩;have h8:=HP7.out;rw [acc_set p q HIP.out HJQ.out] at h8;exact h8
end Go.Proofs.YtjamgccgoapbeaaGreatDoor
