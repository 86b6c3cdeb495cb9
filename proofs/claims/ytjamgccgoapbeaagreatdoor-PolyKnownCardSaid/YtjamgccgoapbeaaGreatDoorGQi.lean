/- Sums of polynomials. Printed by gen_qi.py. -/
import Derived.Test.YtjamgccgoapbeaaGreatDoorGTg
set_option linter.unusedVariables false
set_option maxRecDepth 100000
set_option maxHeartbeats 64000000
namespace Go.Proofs.YtjamgccgoapbeaaGreatDoor
open Go.RowKit
theorem add_le (M:Nat) (hM:M≤1099511627776) (vp vq:Value) (p q:List Rat) (hlp:p.length≤1000000) (hle:q.length≤p.length) (w:World) (hp:Pl w vp p) (hq:Pl w vq q) (hbp:∀x ∈ p,Bq M x) (hbq:∀x ∈ q,Bq M x):Calls Tryz.prog 28 #[vp,vq] w fun e w'=>∃v',e=.returned v'∧PlN w.heap.size w' v' (addF p q)∧Ext w w':=by
 obtain⟨A,cap,rfl,hc,hA⟩:=id hp;obtain⟨C,cap2,rfl,hc2,hC⟩:=id hq;obtain⟨m,hm⟩:∃m,p.length=m:=⟨_,rfl⟩;obtain⟨n,hn⟩:∃n,q.length=n:=⟨_,rfl⟩;rw [hm] at hp;rw [hm,hn];have HP:=ZZ hp;have HLP:=ZZ hlp;have HLE:=ZZ hle;have HMM:=ZZ hm;have HNN:=ZZ hn;have HCC:=ZZ hC;have HBP:=ZZ hbp;have HBQ:=ZZ hbq;have HM:=ZZ hM;have q0:decide ((m:Int)<(n:Int))=false:=decide_eq_false (by omega);have q0':decide (m<n)=false:=decide_eq_false (by omega);clear hp hq hlp hle hm hn hA hC hc hc2 hbp hbq hM
 go_enter Tryz.func28,Tryz.ntmps28
 go_wp2_with fail;refine(clone_q _ p HLP.out _ HP.out).mono ?_
 rintro e w3 ⟨v3,rfl,h3,k3⟩;have H3:=ZZ h3;have K3:=ZZ k3;clear h3 k3;go_wp2_with fail
 go_loopg [19] n (fun k i wr=>∃j,Hid (j+k=n)∧i=.int .i64 (j:Int)∧Hid (PlN w.heap.size wr v3 (stepL p q j))∧Hid (Ext w wr))
 case atStart=>exact⟨0,ZZ (Nat.zero_add _),rfl,ZZ (by rw [stepL_zero];exact H3.out),K3⟩
 case round=>
  obtain⟨j,HJ,rfl,HO,HE⟩:=hrel;rename World=>WR
  rcases Nat.eq_zero_or_pos gk with hz|hz
  ·subst hz
   obtain rfl:j=n:=HJ.out;have q1:decide ((j:Int)<(j:Int))=false:=decide_eq_false (Int.lt_irrefl _);go_wp2_with fail;refine(trim_q _ (stepL p q j) (by rw [stepL_len];exact HLP.out) _ HO.out.pl).mono ?_;rintro e w' ⟨v',rfl,hn,kk⟩;rw [show trimF (stepL p q j)=addF p q by rw [←addF_step p q HLE.out,HNN.out]] at hn;have HN:=ZZ hn;have HK2:=ZZ kk;clear hn kk;go_wp2_with fail;go_ret;refine⟨_,rfl,?_,ak HE.out HK2.out⟩
   rcases HN.out with hn|⟨g,hg,hn⟩
   ·exact .inl hn
   ·exact .inr ⟨g,Nat.le_trans HE.out.size hg,hn⟩
  ·have hjn:j<n:=by have:=HJ.out;omega
   have hjp:j<p.length:=by have h1:=HLE.out;rw [HNN.out] at h1;omega
   have hjm:j<m:=by rw [←HMM.out];exact hjp
   have q1:decide ((j:Int)<(n:Int))=true:=decide_eq_true (by omega);have q1':decide (j<n)=true:=decide_eq_true hjn;have q4:(j:Int)<(n:Int):=by omega
   have q4':(j:Int)<(m:Int):=by omega
   have q5:(0:Int)≤(j:Int):=by omega
   rcases HCC.out with ⟨-,h5⟩|⟨b,o,rfl,ht⟩
   ·have:=HNN.out;rw [h5] at this;simp at this;omega
   rcases HO.out with ⟨-,h6⟩|⟨g,hg,hpo⟩
   ·have:=stepL_len p q j;rw [h6] at this;simp at this;omega
   have hq2:q[j]?=some (co q j):=by unfold co;rw [List.getElem?_eq_getElem (by rw [HNN.out];exact hjn)];rfl
   obtain⟨s2,A2,k2,ca2,B2,l2,cb2,c0,c1,c2,hn2⟩:=(ht j _ hq2).mono HE.out;obtain⟨cap3,cur3,e3,-⟩:=id hpo;rw [stepL_len,HMM.out] at e3;subst e3;have hp2:(stepL p q j)[j]?=some (co p j):=by rw [stepL_get p q j hjp,if_neg (Nat.lt_irrefl _)]
   have HP2:=ZZ hp2;have HG:=ZZ hg;have HZ:=ZZ hz;have HJP:=ZZ hjp;have BQ3:=ZZ (HBP.out (co p j) (List.mem_of_getElem? (show p[j]?=some (co p j) by unfold co;rw [List.getElem?_eq_getElem hjp];rfl)));have BQ2:=ZZ (HBQ.out (co q j) (List.mem_of_getElem? hq2));have N20:=ZZ (hn2.mono (ab WR (.cells #[.bool s2,.slice A2 k2 ca2,.slice B2 l2 cb2] 35)));have E6:=ZZ (ab WR (.cells #[.bool s2,.slice A2 k2 ca2,.slice B2 l2 cb2] 35));have R7:=ZZ (heap_alloc_new WR (.cells #[.bool s2,.slice A2 k2 ca2,.slice B2 l2 cb2] 35));have PO0:=ZZ hpo;clear hn2 hq2 hp2 ht hz hjn hjp hjm hpo hg
   go_upto_region 7 with (fail)
   generalize World.alloc WR (.cells #[.bool s2,.slice A2 k2 ca2,.slice B2 l2 cb2] _)=W6 at *;generalize WR.heap.size=g7 at *
   have PO:=ZZ (show ∀W,Ext W6 W→PlO W g (.slice (some ⟨g,0,none⟩) m cap3) (stepL p q j) from fun W k=>by
    obtain⟨cp,cur,e,hh,h1,h2,h3,h4⟩:=PO0.out;have kk:=ak E6.out k;exact⟨cp,cur,e,(kk.block _ (lt_of_block hh)).trans hh,h1,h2,h3,fun i r hr=>(h4 i r hr).mono kk⟩)
   obtain⟨-,-,-,-,-,-,-,h4⟩:=PO.out W6 (ae _);obtain⟨s3,A3,k3,ca3,B3,l3,cb3,d0,d1,d2,hn3⟩:=h4 j _ HP2.out;have N3:=ZZ hn3;have N2:=N20
   have HC:=ZZ (show ∀W,Ext W6 W→W.cell? ⟨g,j*3,none⟩=some (.bool s3)∧W.cell? ⟨g,j*3+1,none⟩=some (.slice A3 k3 ca3)∧W.cell? ⟨g,j*3+2,none⟩=some (.slice B3 l3 cb3)∧W.cell? ⟨g7,0,none⟩=some (.bool s2)∧W.cell? ⟨g7,1,none⟩=some (.slice A2 k2 ca2)∧W.cell? ⟨g7,2,none⟩=some (.slice B2 l2 cb2) from fun W k=>by
    obtain⟨y0,y1,y2,-⟩:=aj ((k.block _ (lt_of_block R7.out)).trans R7.out);exact⟨ao k d0,ao k d1,ao k d2,y0,y1,y2⟩)
   clear c0 c1 c2 d0 d1 d2 hn3 h4;have hun:undef=.tuple #[]:=rfl;refine wp_region_noPanic ?_;refine region_L (S:=fun W=>W.cell? ⟨g,j*3,none⟩=some (.bool s3)∧W.cell? ⟨g,j*3+1,none⟩=some (.slice A3 k3 ca3)∧W.cell? ⟨g,j*3+2,none⟩=some (.slice B3 l3 cb3)∧W.cell? ⟨g7,0,none⟩=some (.bool s2)∧W.cell? ⟨g7,1,none⟩=some (.slice A2 k2 ca2)∧W.cell? ⟨g7,2,none⟩=some (.slice B2 l2 cb2)) 9 (by kernel_rfl) (HC.out _ (ac _)) (fun hHeld=>?_);refine take_L (i:=0) 24 (v:=?vv0) rfl rfl (by kernel_rfl) (by kernel_rfl) (by kernel_rfl) (by kernel_rfl) (fun _ _ _ h=>h) (Or.inl ⟨rfl,?hy0⟩) (by assumption) ?rr0
   case hy0=>(intro w hSw;(try dsimp only at hSw);go_simp;try with_reducible rfl)
   try simp only [Act.put,lyA,lyB,lyC]
   refine take_L (i:=1) 25 (v:=?vv1) rfl rfl (by kernel_rfl) (by kernel_rfl) (by kernel_rfl) (by kernel_rfl) (fun _ _ _ h=>h) (Or.inl ⟨rfl,?hy1⟩) (by assumption) ?rr1
   case hy1=>(intro w hSw;(try dsimp only at hSw);go_simp;try with_reducible rfl)
   try simp only [Act.put,lyA,lyB,lyC]
   refine take_L (i:=2) 26 (v:=?vv2) rfl rfl (by kernel_rfl) (by kernel_rfl) (by kernel_rfl) (by kernel_rfl) (fun _ _ _ h=>h) (Or.inl ⟨rfl,?hy2⟩) (by assumption) ?rr2
   case hy2=>(intro w hSw;(try dsimp only at hSw);go_simp;try with_reducible rfl)
   try simp only [Act.put,lyA,lyB,lyC]
   refine take_L (i:=3) 27 (v:=?vv3) rfl rfl (by kernel_rfl) (by kernel_rfl) (by kernel_rfl) (by kernel_rfl) (fun _ _ _ h=>h) (Or.inl ⟨rfl,?hy3⟩) (by assumption) ?rr3
   case hy3=>(intro w hSw;(try dsimp only at hSw);go_simp;try with_reducible rfl)
   try simp only [Act.put,lyA,lyB,lyC]
   refine take_L (i:=4) 28 (v:=?vv4) rfl rfl (by kernel_rfl) (by kernel_rfl) (by kernel_rfl) (by kernel_rfl) (fun _ _ _ h=>h) (Or.inl ⟨rfl,?hy4⟩) (by assumption) ?rr4
   case hy4=>(intro w hSw;(try dsimp only at hSw);go_simp;try with_reducible rfl)
   try simp only [Act.put,lyA,lyB,lyC]
   refine take_L (i:=5) 29 (v:=?vv5) rfl rfl (by kernel_rfl) (by kernel_rfl) (by kernel_rfl) (by kernel_rfl) (fun _ _ _ h=>h) (Or.inl ⟨rfl,?hy5⟩) (by assumption) ?rr5
   case hy5=>(intro w hSw;(try dsimp only at hSw);go_simp;try with_reducible rfl)
   try simp only [Act.put,lyA,lyB,lyC]
   refine take_L (i:=6) 30 (v:=?vv6) rfl rfl (by kernel_rfl) (by kernel_rfl) (by kernel_rfl) (by kernel_rfl) (fun _ _ _ h=>h) (Or.inl ⟨rfl,?hy6⟩) (by assumption) ?rr6
   case hy6=>(intro w hSw;(try dsimp only at hSw);go_simp;try with_reducible rfl)
   try simp only [Act.put,lyA,lyB,lyC]
   refine call_L (i:=7) 31 rfl rfl (by kernel_rfl) (fun K hK=>?_)
   go_simp
   go_at_call 44
   refine(add_q M HM.out _ _ (co p j) (co q j) _ (N3.out.mono (ac _)) (N2.out.mono (ac _)) BQ3.out BQ2.out).mono ?_;rintro e w5 ⟨v5,rfl,h5,kk5⟩;obtain⟨s5,A5,k5,ca5,B5,l5,cb5,rfl⟩:=h5.form2;have H5:=ZZ h5;have hx2:=ZZ (show Ext W6 w5 from ak (ac _) kk5);clear h5 kk5
   try go_wp2_with fail
   refine hK.out _ _ (HC.out _ hx2.out) (fun hHeld=>?_);clear hK K
   try simp only [Act.put,lyA,lyB,lyC]
   refine take_L (i:=8) 32 (v:=?vv8) rfl rfl (by kernel_rfl) (by kernel_rfl) (by kernel_rfl) (by kernel_rfl) (fun _ _ _ h=>h) (Or.inl ⟨rfl,?hy8⟩) (by assumption) ?rr8
   case hy8=>(intro w hSw;(try dsimp only at hSw);go_simp;try with_reducible rfl)
   try simp only [Act.put,lyA,lyB,lyC]
   refine last_L rfl (by kernel_rfl) (by kernel_rfl) (fun K hK=>?_);have hp5:=PO.out w5 hx2.out;obtain⟨-,cur5,-,hh5,-⟩:=id hp5;have zf0:=frozen_row hh5 (j*3);have zf1:=frozen_row hh5 (j*3+1);have zf2:=frozen_row hh5 (j*3+2);obtain⟨z0,z1,z2,-⟩:=HC.out w5 hx2.out;clear hp5 hh5
   go_simp
   refine hK.out _ _ ?_;clear hK K
   try simp only [Act.put,lyA,lyB,lyC]
   refine NoPanic.normal ?_;have HP7:=ZZ (PlO.set (PO.out w5 hx2.out) (by rw [stepL_len];exact HJP.out) H5.out);have E7:=ZZ (show Ext w (put3at w5 g (j*3) (.bool s5) (.slice A5 k5 ca5) (.slice B5 l5 cb5)) from (((ak HE.out (ak E6.out hx2.out)).setCell HG.out _).setCell HG.out _).setCell HG.out _);go_wp2_with fail
   go_roundg (gk - 1)
   case measure=>have:=HZ.out;omega
   case rel=>
    refine⟨j+1,ZZ (by have:=HJ.out;have:=HZ.out;omega),by have h1:=HLP.out;have h2:=HJP.out;rw [IntWalk.wrap64_in _ ⟨by omega,by omega⟩];rfl,ZZ ?_,E7⟩;have h8:=HP7.out;rw [stepL_succ p q HJP.out] at h8;exact .inr ⟨g,HG.out,h8⟩
theorem add_gt (M:Nat) (hM:M≤1099511627776) (vp vq:Value) (p q:List Rat) (hlp:p.length≤1000000) (hlt:q.length<p.length) (w:World) (hp:Pl w vp p) (hq:Pl w vq q) (hbp:∀x ∈ p,Bq M x) (hbq:∀x ∈ q,Bq M x):Calls Tryz.prog 28 #[vq,vp] w fun e w'=>∃v',e=.returned v'∧PlN w.heap.size w' v' (addF p q)∧Ext w w':=by
 obtain⟨A,cap,rfl,hc,hA⟩:=id hp;obtain⟨C,cap2,rfl,hc2,hC⟩:=id hq;obtain⟨m,hm⟩:∃m,p.length=m:=⟨_,rfl⟩;obtain⟨n,hn⟩:∃n,q.length=n:=⟨_,rfl⟩;rw [hm] at hp;rw [hm,hn];have HP:=ZZ hp;have HLP:=ZZ hlp;have HLE:=ZZ (Nat.le_of_lt hlt);have HMM:=ZZ hm;have HNN:=ZZ hn;have HCC:=ZZ hC;have HBP:=ZZ hbp;have HBQ:=ZZ hbq;have HM:=ZZ hM;have q0:decide ((n:Int)<(m:Int))=true:=decide_eq_true (by omega);have q0':decide (n<m)=true:=decide_eq_true (by omega);clear hp hq hlp hlt hm hn hA hC hc hc2 hbp hbq hM
 go_enter Tryz.func28,Tryz.ntmps28
 go_wp2_with fail;refine(clone_q _ p HLP.out _ HP.out).mono ?_
 rintro e w3 ⟨v3,rfl,h3,k3⟩;have H3:=ZZ h3;have K3:=ZZ k3;clear h3 k3;go_wp2_with fail
 go_loopg [19] n (fun k i wr=>∃j,Hid (j+k=n)∧i=.int .i64 (j:Int)∧Hid (PlN w.heap.size wr v3 (stepL p q j))∧Hid (Ext w wr))
 case atStart=>exact⟨0,ZZ (Nat.zero_add _),rfl,ZZ (by rw [stepL_zero];exact H3.out),K3⟩
 case round=>
  obtain⟨j,HJ,rfl,HO,HE⟩:=hrel;rename World=>WR
  rcases Nat.eq_zero_or_pos gk with hz|hz
  ·subst hz
   obtain rfl:j=n:=HJ.out;have q1:decide ((j:Int)<(j:Int))=false:=decide_eq_false (Int.lt_irrefl _);go_wp2_with fail;refine(trim_q _ (stepL p q j) (by rw [stepL_len];exact HLP.out) _ HO.out.pl).mono ?_;rintro e w' ⟨v',rfl,hn,kk⟩;rw [show trimF (stepL p q j)=addF p q by rw [←addF_step p q HLE.out,HNN.out]] at hn;have HN:=ZZ hn;have HK2:=ZZ kk;clear hn kk;go_wp2_with fail;go_ret;refine⟨_,rfl,?_,ak HE.out HK2.out⟩
   rcases HN.out with hn|⟨g,hg,hn⟩
   ·exact .inl hn
   ·exact .inr ⟨g,Nat.le_trans HE.out.size hg,hn⟩
  ·have hjn:j<n:=by have:=HJ.out;omega
   have hjp:j<p.length:=by have h1:=HLE.out;rw [HNN.out] at h1;omega
   have hjm:j<m:=by rw [←HMM.out];exact hjp
   have q1:decide ((j:Int)<(n:Int))=true:=decide_eq_true (by omega);have q1':decide (j<n)=true:=decide_eq_true hjn;have q4:(j:Int)<(n:Int):=by omega
   have q4':(j:Int)<(m:Int):=by omega
   have q5:(0:Int)≤(j:Int):=by omega
   rcases HCC.out with ⟨-,h5⟩|⟨b,o,rfl,ht⟩
   ·have:=HNN.out;rw [h5] at this;simp at this;omega
   rcases HO.out with ⟨-,h6⟩|⟨g,hg,hpo⟩
   ·have:=stepL_len p q j;rw [h6] at this;simp at this;omega
   have hq2:q[j]?=some (co q j):=by unfold co;rw [List.getElem?_eq_getElem (by rw [HNN.out];exact hjn)];rfl
   obtain⟨s2,A2,k2,ca2,B2,l2,cb2,c0,c1,c2,hn2⟩:=(ht j _ hq2).mono HE.out;obtain⟨cap3,cur3,e3,-⟩:=id hpo;rw [stepL_len,HMM.out] at e3;subst e3;have hp2:(stepL p q j)[j]?=some (co p j):=by rw [stepL_get p q j hjp,if_neg (Nat.lt_irrefl _)]
   have HP2:=ZZ hp2;have HG:=ZZ hg;have HZ:=ZZ hz;have HJP:=ZZ hjp;have BQ3:=ZZ (HBP.out (co p j) (List.mem_of_getElem? (show p[j]?=some (co p j) by unfold co;rw [List.getElem?_eq_getElem hjp];rfl)));have BQ2:=ZZ (HBQ.out (co q j) (List.mem_of_getElem? hq2));have N20:=ZZ (hn2.mono (ab WR (.cells #[.bool s2,.slice A2 k2 ca2,.slice B2 l2 cb2] 35)));have E6:=ZZ (ab WR (.cells #[.bool s2,.slice A2 k2 ca2,.slice B2 l2 cb2] 35));have R7:=ZZ (heap_alloc_new WR (.cells #[.bool s2,.slice A2 k2 ca2,.slice B2 l2 cb2] 35));have PO0:=ZZ hpo;clear hn2 hq2 hp2 ht hz hjn hjp hjm hpo hg
   go_upto_region 7 with (fail)
   generalize World.alloc WR (.cells #[.bool s2,.slice A2 k2 ca2,.slice B2 l2 cb2] _)=W6 at *;generalize WR.heap.size=g7 at *
   have PO:=ZZ (show ∀W,Ext W6 W→PlO W g (.slice (some ⟨g,0,none⟩) m cap3) (stepL p q j) from fun W k=>by
    obtain⟨cp,cur,e,hh,h1,h2,h3,h4⟩:=PO0.out;have kk:=ak E6.out k;exact⟨cp,cur,e,(kk.block _ (lt_of_block hh)).trans hh,h1,h2,h3,fun i r hr=>(h4 i r hr).mono kk⟩)
   obtain⟨-,-,-,-,-,-,-,h4⟩:=PO.out W6 (ae _);obtain⟨s3,A3,k3,ca3,B3,l3,cb3,d0,d1,d2,hn3⟩:=h4 j _ HP2.out;have N3:=ZZ hn3;have N2:=N20
   have HC:=ZZ (show ∀W,Ext W6 W→W.cell? ⟨g,j*3,none⟩=some (.bool s3)∧W.cell? ⟨g,j*3+1,none⟩=some (.slice A3 k3 ca3)∧W.cell? ⟨g,j*3+2,none⟩=some (.slice B3 l3 cb3)∧W.cell? ⟨g7,0,none⟩=some (.bool s2)∧W.cell? ⟨g7,1,none⟩=some (.slice A2 k2 ca2)∧W.cell? ⟨g7,2,none⟩=some (.slice B2 l2 cb2) from fun W k=>by
    obtain⟨y0,y1,y2,-⟩:=aj ((k.block _ (lt_of_block R7.out)).trans R7.out);exact⟨ao k d0,ao k d1,ao k d2,y0,y1,y2⟩)
   clear c0 c1 c2 d0 d1 d2 hn3 h4;have hun:undef=.tuple #[]:=rfl;refine wp_region_noPanic ?_;refine region_L (S:=fun W=>W.cell? ⟨g,j*3,none⟩=some (.bool s3)∧W.cell? ⟨g,j*3+1,none⟩=some (.slice A3 k3 ca3)∧W.cell? ⟨g,j*3+2,none⟩=some (.slice B3 l3 cb3)∧W.cell? ⟨g7,0,none⟩=some (.bool s2)∧W.cell? ⟨g7,1,none⟩=some (.slice A2 k2 ca2)∧W.cell? ⟨g7,2,none⟩=some (.slice B2 l2 cb2)) 9 (by kernel_rfl) (HC.out _ (ac _)) (fun hHeld=>?_);refine take_L (i:=0) 24 (v:=?vv0) rfl rfl (by kernel_rfl) (by kernel_rfl) (by kernel_rfl) (by kernel_rfl) (fun _ _ _ h=>h) (Or.inl ⟨rfl,?hy0⟩) (by assumption) ?rr0
   case hy0=>(intro w hSw;(try dsimp only at hSw);go_simp;try with_reducible rfl)
   try simp only [Act.put,lyA,lyB,lyC]
   refine take_L (i:=1) 25 (v:=?vv1) rfl rfl (by kernel_rfl) (by kernel_rfl) (by kernel_rfl) (by kernel_rfl) (fun _ _ _ h=>h) (Or.inl ⟨rfl,?hy1⟩) (by assumption) ?rr1
   case hy1=>(intro w hSw;(try dsimp only at hSw);go_simp;try with_reducible rfl)
   try simp only [Act.put,lyA,lyB,lyC]
   refine take_L (i:=2) 26 (v:=?vv2) rfl rfl (by kernel_rfl) (by kernel_rfl) (by kernel_rfl) (by kernel_rfl) (fun _ _ _ h=>h) (Or.inl ⟨rfl,?hy2⟩) (by assumption) ?rr2
   case hy2=>(intro w hSw;(try dsimp only at hSw);go_simp;try with_reducible rfl)
   try simp only [Act.put,lyA,lyB,lyC]
   refine take_L (i:=3) 27 (v:=?vv3) rfl rfl (by kernel_rfl) (by kernel_rfl) (by kernel_rfl) (by kernel_rfl) (fun _ _ _ h=>h) (Or.inl ⟨rfl,?hy3⟩) (by assumption) ?rr3
   case hy3=>(intro w hSw;(try dsimp only at hSw);go_simp;try with_reducible rfl)
   try simp only [Act.put,lyA,lyB,lyC]
   refine take_L (i:=4) 28 (v:=?vv4) rfl rfl (by kernel_rfl) (by kernel_rfl) (by kernel_rfl) (by kernel_rfl) (fun _ _ _ h=>h) (Or.inl ⟨rfl,?hy4⟩) (by assumption) ?rr4
   case hy4=>(intro w hSw;(try dsimp only at hSw);go_simp;try with_reducible rfl)
   try simp only [Act.put,lyA,lyB,lyC]
   refine take_L (i:=5) 29 (v:=?vv5) rfl rfl (by kernel_rfl) (by kernel_rfl) (by kernel_rfl) (by kernel_rfl) (fun _ _ _ h=>h) (Or.inl ⟨rfl,?hy5⟩) (by assumption) ?rr5
   case hy5=>(intro w hSw;(try dsimp only at hSw);go_simp;try with_reducible rfl)
   try simp only [Act.put,lyA,lyB,lyC]
   refine take_L (i:=6) 30 (v:=?vv6) rfl rfl (by kernel_rfl) (by kernel_rfl) (by kernel_rfl) (by kernel_rfl) (fun _ _ _ h=>h) (Or.inl ⟨rfl,?hy6⟩) (by assumption) ?rr6
   case hy6=>(intro w hSw;(try dsimp only at hSw);go_simp;try with_reducible rfl)
   try simp only [Act.put,lyA,lyB,lyC]
   refine call_L (i:=7) 31 rfl rfl (by kernel_rfl) (fun K hK=>?_)
   go_simp
   go_at_call 44
   refine(add_q M HM.out _ _ (co p j) (co q j) _ (N3.out.mono (ac _)) (N2.out.mono (ac _)) BQ3.out BQ2.out).mono ?_;rintro e w5 ⟨v5,rfl,h5,kk5⟩;obtain⟨s5,A5,k5,ca5,B5,l5,cb5,rfl⟩:=h5.form2;have H5:=ZZ h5;have hx2:=ZZ (show Ext W6 w5 from ak (ac _) kk5);clear h5 kk5
   try go_wp2_with fail
   refine hK.out _ _ (HC.out _ hx2.out) (fun hHeld=>?_);clear hK K
   try simp only [Act.put,lyA,lyB,lyC]
   refine take_L (i:=8) 32 (v:=?vv8) rfl rfl (by kernel_rfl) (by kernel_rfl) (by kernel_rfl) (by kernel_rfl) (fun _ _ _ h=>h) (Or.inl ⟨rfl,?hy8⟩) (by assumption) ?rr8
   case hy8=>(intro w hSw;(try dsimp only at hSw);go_simp;try with_reducible rfl)
   try simp only [Act.put,lyA,lyB,lyC]
   refine last_L rfl (by kernel_rfl) (by kernel_rfl) (fun K hK=>?_);have hp5:=PO.out w5 hx2.out;obtain⟨-,cur5,-,hh5,-⟩:=id hp5;have zf0:=frozen_row hh5 (j*3);have zf1:=frozen_row hh5 (j*3+1);have zf2:=frozen_row hh5 (j*3+2);obtain⟨z0,z1,z2,-⟩:=HC.out w5 hx2.out;clear hp5 hh5
   go_simp
   refine hK.out _ _ ?_;clear hK K
   try simp only [Act.put,lyA,lyB,lyC]
   refine NoPanic.normal ?_;have HP7:=ZZ (PlO.set (PO.out w5 hx2.out) (by rw [stepL_len];exact HJP.out) H5.out);have E7:=ZZ (show Ext w (put3at w5 g (j*3) (.bool s5) (.slice A5 k5 ca5) (.slice B5 l5 cb5)) from (((ak HE.out (ak E6.out hx2.out)).setCell HG.out _).setCell HG.out _).setCell HG.out _);go_wp2_with fail
   go_roundg (gk - 1)
   case measure=>have:=HZ.out;omega
   case rel=>
    refine⟨j+1,ZZ (by have:=HJ.out;have:=HZ.out;omega),by have h1:=HLP.out;have h2:=HJP.out;rw [IntWalk.wrap64_in _ ⟨by omega,by omega⟩];rfl,ZZ ?_,E7⟩;have h8:=HP7.out;rw [stepL_succ p q HJP.out] at h8;exact .inr ⟨g,HG.out,h8⟩
theorem add_p (M:Nat) (hM:M≤1099511627776) (vp vq:Value) (p q:List Rat) (hlp:p.length≤1000000) (hlq:q.length≤1000000) (w:World) (hp:Pl w vp p) (hq:Pl w vq q) (hbp:∀x ∈ p,Bq M x) (hbq:∀x ∈ q,Bq M x):Calls Tryz.prog 28 #[vp,vq] w fun e w'=>∃v',e=.returned v'∧PlN w.heap.size w' v' (addF p q)∧Ext w w':=by
 rcases Nat.lt_or_ge p.length q.length with h|h
 ·rw [addF_comm]
  exact add_gt M hM vq vp q p hlq h w hq hp hbq hbp
 ·exact add_le M hM vp vq p q hlp h w hp hq hbp hbq
end Go.Proofs.YtjamgccgoapbeaaGreatDoor
