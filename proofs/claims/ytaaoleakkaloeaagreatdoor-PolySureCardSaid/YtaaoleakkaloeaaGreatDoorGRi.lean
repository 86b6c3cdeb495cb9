/- The reference's natural numbers: the number of a row of digits. Sums of polynomials. Printed by gen_qi.py. Differences of polynomials. The monic multiple of a polynomial. -/
import Derived.Test.YtaaoleakkaloeaaGreatDoorGRh
import Derived.Test.YtaaoleakkaloeaaGreatDoorGQp
import Derived.Test.YtaaoleakkaloeaaGreatDoorGTi
set_option linter.unusedVariables false
set_option maxRecDepth 100000
set_option maxHeartbeats 64000000
namespace Go.Proofs.YtaaoleakkaloeaaGreatDoor
open Go.RowKit
theorem natOf_split (l:List UInt8) (c n:Nat) (h:c+n≤l.length):natOf (l.take (c+n))=natOf (l.take c)*10 ^ n+natOf ((l.drop c).take n):=by
 rw [List.take_add,natOf_append];rw [List.length_take,List.length_drop,Nat.min_eq_left (by omega)]
theorem dr_ten {n k:Nat} (h:n<10 ^ k):(dr n).length≤k:=by
 apply dig_length_le B30_two
 have:10 ^ k≤B30 ^ k:=Nat.pow_le_pow_left (by rw [B30_eq];omega) k
 omega
theorem natural_f (l:List UInt8) (hd:∀c ∈ l,isDig c=true) (hl:l.length≤1000000) (w:World):Calls Tryz.prog 73 #[.string ⟨l.toArray⟩] w fun e w'=>∃v,e=.returned v∧Wr w' v (natOf l)∧Ext w w'∧Fr w.heap.size v:=by
 have HDG:=ZZ hd;clear hd
 go_enter Tryz.func73,Tryz.ntmps73
 go_wp2_with fail
 go_loopg [0,3] (l.length) (fun gk s out wr=>∃(c:Nat) (y:List UInt8),c+gk=l.length∧y.length=gk∧s=.string ⟨y.toArray⟩∧Hid (y=l.drop c)∧Hid (Wr wr out (natOf (l.take c))∧Fr w.heap.size out)∧Hid (Ext w wr))
 case atStart=>exact⟨0,l,by omega,rfl,rfl,ZZ (by simp),ZZ ⟨Wr.zero _,fun b hb=>by cases hb⟩,ZZ (af _)⟩
 case round=>
  obtain⟨G,hG⟩:∃G,G=gk:=⟨_,rfl⟩;subst hG;obtain⟨c,y,hc,hy,rfl,HY,HW,HE⟩:=hrel;have hsz:(⟨y.toArray⟩:ByteArray).size=G:=by rw [←hy];simp [ByteArray.size]
  have HYL:=ZZ hy;have HCL:=ZZ hc
  rcases Nat.eq_zero_or_pos G with hz|hz
  ·subst hz
   have HF:=ZZ (show natOf (l.take c)=natOf l by rw [List.take_of_length_le (by omega)]);clear hy hc;go_wp2_with fail;go_ret;exact⟨_,rfl,by rw [←HF.out];exact HW.out.1,HE.out,HW.out.2⟩
  ·obtain⟨nn,hnn,hn1,hn9,hng⟩:∃nn:Nat,min (G:Int) 9=(nn:Int)∧1≤nn∧nn≤9∧nn≤G:=⟨min G 9,by omega,by omega,by omega,by omega⟩
   have hgl:G≤1000000:=by omega
   have HGP:=ZZ hz;clear hy hc;go_wp2_with fail
   go_loopg [5,6,7] nn (fun g p f i wx=>∃t P F:Nat,t+g=nn∧i=.int .i64 (t:Int)∧p=.int .i64 (P:Int)∧f=.int .i64 (F:Int)∧P=natOf (y.take t)∧F=10 ^ t∧P<1000000000∧F≤1000000000∧wx=wr)
   case atStart=>exact⟨0,0,1,by omega,rfl,rfl,rfl,by simp [natOf],rfl,by omega,by omega,rfl⟩
   case round=>
    obtain⟨t,P,F,ht,rfl,rfl,rfl,hP,hF,hPb,hFb,rfl⟩:=hrel;have HP:=ZZ hP;have HF:=ZZ hF;clear hP hF
    rcases Nat.eq_zero_or_pos gk with hz|hz
    ·subst hz
     obtain rfl:t=nn:=by omega
     have hx2:(⟨y.toArray⟩:ByteArray).extract t G=⟨(y.drop t).toArray⟩:=by
      apply ByteArray.ext;simp;exact List.take_of_length_le (by simp;have:=HYL.out;omega)
     have SO:=ZZ (show Sr (natOf (l.take c)) by
      have h1:=natOf_lt (l.take c) (fun z hz=>HDG.out z (List.mem_of_mem_take hz));have h2:=dr_ten h1;rw [List.length_take] at h2;unfold Sr;omega)
     have SF:=ZZ (show Sr F by
      have:=dr_ten (n:=F) (k:=10) (by omega)
      unfold Sr;omega)
     have SP:=ZZ (show Sr P by
      have:=dr_ten (n:=P) (k:=10) (by omega)
      unfold Sr;omega)
     have HSPL:=ZZ (show natOf (l.take (c+t))=natOf (l.take c)*F+P by
      rw [natOf_split l c t (by have:=HCL.out;omega),HF.out,HP.out,HY.out])
     have SOF:=ZZ (show Sr (natOf (l.take c)*F) by
      have h1:=natOf_lt (l.take c) (fun z hz=>HDG.out z (List.mem_of_mem_take hz));have h2:=dr_ten h1;have h3:=dr_ten (n:=F) (k:=10) (by omega);have h4:=dig_length_mul B30_two (natOf (l.take c)) F;rw [List.length_take] at h2;unfold Sr dr at *;omega)
     have hw1:(t:Int)≤(G:Int):=by omega
     go_wp2_with fail;refine(small_r F (by omega) _).mono ?_
     rintro e w2 ⟨v2,rfl,h2,k2⟩;have H2:=ZZ h2;have K2:=ZZ k2;clear h2 k2;go_wp2_with fail;refine(times_r _ v2 (natOf (l.take c)) F _ (HW.out.1.mono K2.out) H2.out SO.out SF.out).mono ?_;rintro e w3 ⟨v3,rfl,h3,k3⟩;have H3:=ZZ h3;have K3:=ZZ (al K2.out k3);clear h3 k3;go_wp2_with fail;refine(small_r P (by omega) _).mono ?_;rintro e w4 ⟨v4,rfl,h4,k4⟩;have H4:=ZZ h4;have K4:=ZZ (al K3.out k4);have H3':=ZZ (H3.out.mono k4);clear h4 k4;go_wp2_with fail;refine(plus_f v3 v4 (natOf (l.take c)*F) P _ H3'.out H4.out SOF.out SP.out).mono ?_;rintro e w5 ⟨v5,rfl,h5,k5,fr5⟩;have H5:=ZZ (And.intro h5 (show Fr w.heap.size v5 from fun b hb=>Nat.le_trans (al HE.out K4.out).size (fr5 b hb)));have K5:=ZZ (al HE.out (al K4.out k5));clear h5 k5 fr5;go_wp2_with fail
     go_roundg (G - t)
     case measure=>have:=HGP.out;omega
     case rel=>
      refine⟨c+t,y.drop t,by have:=HCL.out;omega,by rw [List.length_drop,HYL.out],rfl,ZZ (by rw [HY.out,List.drop_drop]),?_,K5⟩;rw [HSPL.out];exact H5
    ·have htl:t<y.length:=by have:=HYL.out;omega
     have hz1:t<(⟨y.toArray⟩:ByteArray).size:=by rw [hsz];omega
     have hge:(⟨y.toArray⟩:ByteArray)[t]'hz1=y[t]:=by rfl
     have hsub:∀z ∈ y,z ∈ l:=fun z hz=>by rw [HY.out] at hz;exact List.mem_of_mem_drop hz
     have HSUB:=ZZ hsub;have hdig:=HDG.out y[t] (hsub _ (List.getElem_mem _));clear hsub;rw [isDig_iff] at hdig;obtain⟨dg,hdg⟩:∃dg:Nat,dg=(y[t]).toNat - 48:=⟨_,rfl⟩;have HNX:=ZZ (show natOf (y.take (t+1))=10*P+dg by rw [natOf_take_succ y t htl,←HP.out,hdg]);have hdb:dg≤9:=by omega
     have HTL:=ZZ htl
     have hw1:IntKind.u8.wrap ((((⟨y.toArray⟩:ByteArray)[t]'hz1).toNat:Int) - 48)=(dg:Int):=by
      rw [hge,IntWalk.u8_in _ (by omega)];omega
     obtain⟨P1,hP1⟩:∃P1:Nat,P1=10*P:=⟨_,rfl⟩;obtain⟨P2,hP2⟩:∃P2:Nat,P2=P1+dg:=⟨_,rfl⟩;obtain⟨F1,hF1⟩:∃F1:Nat,F1=10*F:=⟨_,rfl⟩;have hw2:IntKind.i64.wrap (10*(P:Int))=(P1:Int):=(IntWalk.i64_in _ (by omega)).trans (by omega);have hw3:IntKind.i64.wrap (dg:Int)=(dg:Int):=IntWalk.i64_in _ (by omega);have hw4:IntKind.i64.wrap ((P1:Int)+(dg:Int))=(P2:Int):=(IntWalk.i64_in _ (by omega)).trans (by omega);have hw5:IntKind.i64.wrap (10*(F:Int))=(F1:Int):=(IntWalk.i64_in _ (by omega)).trans (by omega);have HP2:=ZZ (show P2=natOf (y.take (t+1)) by rw [HNX.out,hP2,hP1]);have HF2:=ZZ (show F1=10 ^ (t+1) by rw [hF1,HF.out,Nat.pow_succ,Nat.mul_comm])
     have HB2:=ZZ (show P2<1000000000 by
      rw [HP2.out];have h1:=natOf_lt (y.take (t+1)) (fun z hz=>HDG.out z (HSUB.out z (List.mem_of_mem_take hz)));have h3:(y.take (t+1)).length≤9:=by rw [List.length_take];omega
      have h4:10 ^ (y.take (t+1)).length≤10 ^ 9:=Nat.pow_le_pow_right (by omega) h3
      omega)
     have HB3:=ZZ (show F1≤1000000000 by
      rw [HF2.out];have h4:10 ^ (t+1)≤10 ^ 9:=Nat.pow_le_pow_right (by omega) (by omega)
      omega)
     have HZ0:=ZZ hz;clear hge hdig hdg hP1 hP2 hF1;go_wp2_with fail
     go_roundg (gk - 1)
     case measure=>have:=HZ0.out;omega
     case rel=>exact⟨t+1,P2,F1,by omega,by first|rfl|simp,rfl,rfl,HP2.out,HF2.out,HB2.out,HB3.out,rfl⟩
theorem natural_r (l:List UInt8) (hd:∀c ∈ l,isDig c=true) (hl:l.length≤1000000) (w:World):Calls Tryz.prog 73 #[.string ⟨l.toArray⟩] w fun e w'=>∃v,e=.returned v∧Wr w' v (natOf l)∧Ext w w':=
 (natural_f l hd hl w).mono fun e w' ⟨v,h1,h2,h3,_⟩=>⟨v,h1,h2,h3⟩
end Go.Proofs.YtaaoleakkaloeaaGreatDoor
set_option linter.unusedVariables false
set_option maxRecDepth 100000
set_option maxHeartbeats 64000000
namespace Go.Proofs.YtaaoleakkaloeaaGreatDoor
open Go.RowKit
theorem add_le (M:Nat) (hM:M≤1099511627776) (vp vq:Value) (p q:List Rat) (hlp:p.length≤1000000) (hle:q.length≤p.length) (w:World) (hp:Pl w vp p) (hq:Pl w vq q) (hbp:∀x ∈ p,Bq M x) (hbq:∀x ∈ q,Bq M x):Calls Tryz.prog 77 #[vp,vq] w fun e w'=>∃v',e=.returned v'∧PlN w.heap.size w' v' (addF p q)∧Ext w w':=by
 obtain⟨A,cap,rfl,hc,hA⟩:=id hp;obtain⟨C,cap2,rfl,hc2,hC⟩:=id hq;obtain⟨m,hm⟩:∃m,p.length=m:=⟨_,rfl⟩;obtain⟨n,hn⟩:∃n,q.length=n:=⟨_,rfl⟩;rw [hm] at hp;rw [hm,hn];have HP:=ZZ hp;have HLP:=ZZ hlp;have HLE:=ZZ hle;have HMM:=ZZ hm;have HNN:=ZZ hn;have HCC:=ZZ hC;have HBP:=ZZ hbp;have HBQ:=ZZ hbq;have HM:=ZZ hM;have q0:decide ((m:Int)<(n:Int))=false:=decide_eq_false (by omega);have q0':decide (m<n)=false:=decide_eq_false (by omega);clear hp hq hlp hle hm hn hA hC hc hc2 hbp hbq hM
 go_enter Tryz.func77,Tryz.ntmps77
 go_wp2_with fail;refine(clone_q _ p HLP.out _ HP.out).mono ?_
 rintro e w3 ⟨v3,rfl,h3,k3⟩;have H3:=ZZ h3;have K3:=ZZ k3;clear h3 k3;go_wp2_with fail
 go_loopg [19] n (fun k i wr=>∃j,Hid (j+k=n)∧i=.int .i64 (j:Int)∧Hid (PlN w.heap.size wr v3 (stepL p q j))∧Hid (Ext w wr))
 case atStart=>exact⟨0,ZZ (Nat.zero_add _),rfl,ZZ (by rw [stepL_zero];exact H3.out),K3⟩
 case round=>
  obtain⟨j,HJ,rfl,HO,HE⟩:=hrel;rename World=>WR
  rcases Nat.eq_zero_or_pos gk with hz|hz
  ·subst hz
   obtain rfl:j=n:=HJ.out;have q1:decide ((j:Int)<(j:Int))=false:=decide_eq_false (Int.lt_irrefl _);go_wp2_with fail;refine(trim_q _ (stepL p q j) (by rw [stepL_len];exact HLP.out) _ HO.out.pl).mono ?_;rintro e w' ⟨v',rfl,hn,kk⟩;rw [show trimF (stepL p q j)=addF p q by rw [←addF_step p q HLE.out,HNN.out]] at hn;have HN:=ZZ hn;have HK2:=ZZ kk;clear hn kk;go_wp2_with fail;go_ret;refine⟨_,rfl,?_,al HE.out HK2.out⟩
   rcases HN.out with hn|⟨g,hg,hn⟩
   ·exact .inl hn
   ·exact .inr ⟨g,Nat.le_trans HE.out.size hg,hn⟩
  ·have hjn:j<n:=by have:=HJ.out;omega
   have hjp:j<p.length:=by have h1:=HLE.out;rw [HNN.out] at h1;omega
   have hjm:j<m:=by rw [←HMM.out];exact hjp
   have q1:decide ((j:Int)<(n:Int))=true:=decide_eq_true (by omega);have q1':decide (j<n)=true:=decide_eq_true hjn;have q4:(j:Int)<(n:Int):=by omega
   have q4':(j:Int)<(m:Int):=by omega
   have q5:(0:Int)≤(j:Int):=by omega
   rcases HCC.out with ⟨-,h5⟩|⟨b,o,rfl,ht⟩
   ·have:=HNN.out;rw [h5] at this;simp at this;omega
   rcases HO.out with ⟨-,h6⟩|⟨g,hg,hpo⟩
   ·have:=stepL_len p q j;rw [h6] at this;simp at this;omega
   have hq2:q[j]?=some (co q j):=by unfold co;rw [List.getElem?_eq_getElem (by rw [HNN.out];exact hjn)];rfl
   obtain⟨s2,A2,k2,ca2,B2,l2,cb2,c0,c1,c2,hn2⟩:=(ht j _ hq2).mono HE.out;obtain⟨cap3,cur3,e3,-⟩:=id hpo;rw [stepL_len,HMM.out] at e3;subst e3;have hp2:(stepL p q j)[j]?=some (co p j):=by rw [stepL_get p q j hjp,if_neg (Nat.lt_irrefl _)]
   have HP2:=ZZ hp2;have HG:=ZZ hg;have HZ:=ZZ hz;have HJP:=ZZ hjp;have BQ3:=ZZ (HBP.out (co p j) (List.mem_of_getElem? (show p[j]?=some (co p j) by unfold co;rw [List.getElem?_eq_getElem hjp];rfl)));have BQ2:=ZZ (HBQ.out (co q j) (List.mem_of_getElem? hq2));have N20:=ZZ (hn2.mono (ac WR (.cells #[.bool s2,.slice A2 k2 ca2,.slice B2 l2 cb2] 36)));have E6:=ZZ (ac WR (.cells #[.bool s2,.slice A2 k2 ca2,.slice B2 l2 cb2] 36));have R7:=ZZ (heap_alloc_new WR (.cells #[.bool s2,.slice A2 k2 ca2,.slice B2 l2 cb2] 36));have PO0:=ZZ hpo;clear hn2 hq2 hp2 ht hz hjn hjp hjm hpo hg
   go_upto_region 7 with (fail)
   generalize World.alloc WR (.cells #[.bool s2,.slice A2 k2 ca2,.slice B2 l2 cb2] _)=W6 at *;generalize WR.heap.size=g7 at *
   have PO:=ZZ (show ∀W,Ext W6 W→PlO W g (.slice (some ⟨g,0,none⟩) m cap3) (stepL p q j) from fun W k=>by
    obtain⟨cp,cur,e,hh,h1,h2,h3,h4⟩:=PO0.out;have kk:=al E6.out k;exact⟨cp,cur,e,(kk.block _ (lt_of_block hh)).trans hh,h1,h2,h3,fun i r hr=>(h4 i r hr).mono kk⟩)
   obtain⟨-,-,-,-,-,-,-,h4⟩:=PO.out W6 (af _);obtain⟨s3,A3,k3,ca3,B3,l3,cb3,d0,d1,d2,hn3⟩:=h4 j _ HP2.out;have N3:=ZZ hn3;have N2:=N20
   have HC:=ZZ (show ∀W,Ext W6 W→W.cell? ⟨g,j*3,none⟩=some (.bool s3)∧W.cell? ⟨g,j*3+1,none⟩=some (.slice A3 k3 ca3)∧W.cell? ⟨g,j*3+2,none⟩=some (.slice B3 l3 cb3)∧W.cell? ⟨g7,0,none⟩=some (.bool s2)∧W.cell? ⟨g7,1,none⟩=some (.slice A2 k2 ca2)∧W.cell? ⟨g7,2,none⟩=some (.slice B2 l2 cb2) from fun W k=>by
    obtain⟨y0,y1,y2,-⟩:=aj ((k.block _ (lt_of_block R7.out)).trans R7.out);exact⟨ao k d0,ao k d1,ao k d2,y0,y1,y2⟩)
   clear c0 c1 c2 d0 d1 d2 hn3 h4;have hun:undef=.tuple #[]:=rfl;refine wp_region_noPanic ?_;refine region_L (S:=fun W=>W.cell? ⟨g,j*3,none⟩=some (.bool s3)∧W.cell? ⟨g,j*3+1,none⟩=some (.slice A3 k3 ca3)∧W.cell? ⟨g,j*3+2,none⟩=some (.slice B3 l3 cb3)∧W.cell? ⟨g7,0,none⟩=some (.bool s2)∧W.cell? ⟨g7,1,none⟩=some (.slice A2 k2 ca2)∧W.cell? ⟨g7,2,none⟩=some (.slice B2 l2 cb2)) 9 (by kernel_rfl) (HC.out _ (ae _)) (fun hHeld=>?_);refine take_b 0 24 ?_;refine take_b 1 25 ?_;refine take_b 2 26 ?_;refine take_b 3 27 ?_;refine take_b 4 28 ?_;refine take_b 5 29 ?_;refine take_b 6 30 ?_;refine call_L (i:=7) 31 rfl rfl (by kernel_rfl) (fun K hK=>?_)
   go_simp
   go_at_call 50
   refine(add_q M HM.out _ _ (co p j) (co q j) _ (N3.out.mono (ae _)) (N2.out.mono (ae _)) BQ3.out BQ2.out).mono ?_;rintro e w5 ⟨v5,rfl,h5,kk5⟩;obtain⟨s5,A5,k5,ca5,B5,l5,cb5,rfl⟩:=h5.form2;have H5:=ZZ h5;have hx2:=ZZ (show Ext W6 w5 from al (ae _) kk5);clear h5 kk5
   try go_wp2_with fail
   refine hK.out _ _ (HC.out _ hx2.out) (fun hHeld=>?_);clear hK K
   try simp only [Act.put,lyA,lyB,lyC]
   refine take_b 8 32 ?_;refine last_L rfl (by kernel_rfl) (by kernel_rfl) (fun K hK=>?_);have hp5:=PO.out w5 hx2.out;obtain⟨-,cur5,-,hh5,-⟩:=id hp5;have zf0:=frozen_row hh5 (j*3);have zf1:=frozen_row hh5 (j*3+1);have zf2:=frozen_row hh5 (j*3+2);obtain⟨z0,z1,z2,-⟩:=HC.out w5 hx2.out;clear hp5 hh5
   go_simp
   refine hK.out _ _ ?_;clear hK K
   try simp only [Act.put,lyA,lyB,lyC]
   refine NoPanic.normal ?_;have HP7:=ZZ (PlO.set (PO.out w5 hx2.out) (by rw [stepL_len];exact HJP.out) H5.out);have E7:=ZZ (show Ext w (put3at w5 g (j*3) (.bool s5) (.slice A5 k5 ca5) (.slice B5 l5 cb5)) from (((al HE.out (al E6.out hx2.out)).setCell HG.out _).setCell HG.out _).setCell HG.out _);go_wp2_with fail
   go_roundg (gk - 1)
   case measure=>have:=HZ.out;omega
   case rel=>
    refine⟨j+1,ZZ (by have:=HJ.out;have:=HZ.out;omega),by have h1:=HLP.out;have h2:=HJP.out;rw [IntWalk.wrap64_in _ ⟨by omega,by omega⟩];rfl,ZZ ?_,E7⟩;have h8:=HP7.out;rw [stepL_succ p q HJP.out] at h8;exact .inr ⟨g,HG.out,h8⟩
theorem add_gt (M:Nat) (hM:M≤1099511627776) (vp vq:Value) (p q:List Rat) (hlp:p.length≤1000000) (hlt:q.length<p.length) (w:World) (hp:Pl w vp p) (hq:Pl w vq q) (hbp:∀x ∈ p,Bq M x) (hbq:∀x ∈ q,Bq M x):Calls Tryz.prog 77 #[vq,vp] w fun e w'=>∃v',e=.returned v'∧PlN w.heap.size w' v' (addF p q)∧Ext w w':=by
 obtain⟨A,cap,rfl,hc,hA⟩:=id hp;obtain⟨C,cap2,rfl,hc2,hC⟩:=id hq;obtain⟨m,hm⟩:∃m,p.length=m:=⟨_,rfl⟩;obtain⟨n,hn⟩:∃n,q.length=n:=⟨_,rfl⟩;rw [hm] at hp;rw [hm,hn];have HP:=ZZ hp;have HLP:=ZZ hlp;have HLE:=ZZ (Nat.le_of_lt hlt);have HMM:=ZZ hm;have HNN:=ZZ hn;have HCC:=ZZ hC;have HBP:=ZZ hbp;have HBQ:=ZZ hbq;have HM:=ZZ hM;have q0:decide ((n:Int)<(m:Int))=true:=decide_eq_true (by omega);have q0':decide (n<m)=true:=decide_eq_true (by omega);clear hp hq hlp hlt hm hn hA hC hc hc2 hbp hbq hM
 go_enter Tryz.func77,Tryz.ntmps77
 go_wp2_with fail;refine(clone_q _ p HLP.out _ HP.out).mono ?_
 rintro e w3 ⟨v3,rfl,h3,k3⟩;have H3:=ZZ h3;have K3:=ZZ k3;clear h3 k3;go_wp2_with fail
 go_loopg [19] n (fun k i wr=>∃j,Hid (j+k=n)∧i=.int .i64 (j:Int)∧Hid (PlN w.heap.size wr v3 (stepL p q j))∧Hid (Ext w wr))
 case atStart=>exact⟨0,ZZ (Nat.zero_add _),rfl,ZZ (by rw [stepL_zero];exact H3.out),K3⟩
 case round=>
  obtain⟨j,HJ,rfl,HO,HE⟩:=hrel;rename World=>WR
  rcases Nat.eq_zero_or_pos gk with hz|hz
  ·subst hz
   obtain rfl:j=n:=HJ.out;have q1:decide ((j:Int)<(j:Int))=false:=decide_eq_false (Int.lt_irrefl _);go_wp2_with fail;refine(trim_q _ (stepL p q j) (by rw [stepL_len];exact HLP.out) _ HO.out.pl).mono ?_;rintro e w' ⟨v',rfl,hn,kk⟩;rw [show trimF (stepL p q j)=addF p q by rw [←addF_step p q HLE.out,HNN.out]] at hn;have HN:=ZZ hn;have HK2:=ZZ kk;clear hn kk;go_wp2_with fail;go_ret;refine⟨_,rfl,?_,al HE.out HK2.out⟩
   rcases HN.out with hn|⟨g,hg,hn⟩
   ·exact .inl hn
   ·exact .inr ⟨g,Nat.le_trans HE.out.size hg,hn⟩
  ·have hjn:j<n:=by have:=HJ.out;omega
   have hjp:j<p.length:=by have h1:=HLE.out;rw [HNN.out] at h1;omega
   have hjm:j<m:=by rw [←HMM.out];exact hjp
   have q1:decide ((j:Int)<(n:Int))=true:=decide_eq_true (by omega);have q1':decide (j<n)=true:=decide_eq_true hjn;have q4:(j:Int)<(n:Int):=by omega
   have q4':(j:Int)<(m:Int):=by omega
   have q5:(0:Int)≤(j:Int):=by omega
   rcases HCC.out with ⟨-,h5⟩|⟨b,o,rfl,ht⟩
   ·have:=HNN.out;rw [h5] at this;simp at this;omega
   rcases HO.out with ⟨-,h6⟩|⟨g,hg,hpo⟩
   ·have:=stepL_len p q j;rw [h6] at this;simp at this;omega
   have hq2:q[j]?=some (co q j):=by unfold co;rw [List.getElem?_eq_getElem (by rw [HNN.out];exact hjn)];rfl
   obtain⟨s2,A2,k2,ca2,B2,l2,cb2,c0,c1,c2,hn2⟩:=(ht j _ hq2).mono HE.out;obtain⟨cap3,cur3,e3,-⟩:=id hpo;rw [stepL_len,HMM.out] at e3;subst e3;have hp2:(stepL p q j)[j]?=some (co p j):=by rw [stepL_get p q j hjp,if_neg (Nat.lt_irrefl _)]
   have HP2:=ZZ hp2;have HG:=ZZ hg;have HZ:=ZZ hz;have HJP:=ZZ hjp;have BQ3:=ZZ (HBP.out (co p j) (List.mem_of_getElem? (show p[j]?=some (co p j) by unfold co;rw [List.getElem?_eq_getElem hjp];rfl)));have BQ2:=ZZ (HBQ.out (co q j) (List.mem_of_getElem? hq2));have N20:=ZZ (hn2.mono (ac WR (.cells #[.bool s2,.slice A2 k2 ca2,.slice B2 l2 cb2] 36)));have E6:=ZZ (ac WR (.cells #[.bool s2,.slice A2 k2 ca2,.slice B2 l2 cb2] 36));have R7:=ZZ (heap_alloc_new WR (.cells #[.bool s2,.slice A2 k2 ca2,.slice B2 l2 cb2] 36));have PO0:=ZZ hpo;clear hn2 hq2 hp2 ht hz hjn hjp hjm hpo hg
   go_upto_region 7 with (fail)
   generalize World.alloc WR (.cells #[.bool s2,.slice A2 k2 ca2,.slice B2 l2 cb2] _)=W6 at *;generalize WR.heap.size=g7 at *
   have PO:=ZZ (show ∀W,Ext W6 W→PlO W g (.slice (some ⟨g,0,none⟩) m cap3) (stepL p q j) from fun W k=>by
    obtain⟨cp,cur,e,hh,h1,h2,h3,h4⟩:=PO0.out;have kk:=al E6.out k;exact⟨cp,cur,e,(kk.block _ (lt_of_block hh)).trans hh,h1,h2,h3,fun i r hr=>(h4 i r hr).mono kk⟩)
   obtain⟨-,-,-,-,-,-,-,h4⟩:=PO.out W6 (af _);obtain⟨s3,A3,k3,ca3,B3,l3,cb3,d0,d1,d2,hn3⟩:=h4 j _ HP2.out;have N3:=ZZ hn3;have N2:=N20
   have HC:=ZZ (show ∀W,Ext W6 W→W.cell? ⟨g,j*3,none⟩=some (.bool s3)∧W.cell? ⟨g,j*3+1,none⟩=some (.slice A3 k3 ca3)∧W.cell? ⟨g,j*3+2,none⟩=some (.slice B3 l3 cb3)∧W.cell? ⟨g7,0,none⟩=some (.bool s2)∧W.cell? ⟨g7,1,none⟩=some (.slice A2 k2 ca2)∧W.cell? ⟨g7,2,none⟩=some (.slice B2 l2 cb2) from fun W k=>by
    obtain⟨y0,y1,y2,-⟩:=aj ((k.block _ (lt_of_block R7.out)).trans R7.out);exact⟨ao k d0,ao k d1,ao k d2,y0,y1,y2⟩)
   clear c0 c1 c2 d0 d1 d2 hn3 h4;have hun:undef=.tuple #[]:=rfl;refine wp_region_noPanic ?_;refine region_L (S:=fun W=>W.cell? ⟨g,j*3,none⟩=some (.bool s3)∧W.cell? ⟨g,j*3+1,none⟩=some (.slice A3 k3 ca3)∧W.cell? ⟨g,j*3+2,none⟩=some (.slice B3 l3 cb3)∧W.cell? ⟨g7,0,none⟩=some (.bool s2)∧W.cell? ⟨g7,1,none⟩=some (.slice A2 k2 ca2)∧W.cell? ⟨g7,2,none⟩=some (.slice B2 l2 cb2)) 9 (by kernel_rfl) (HC.out _ (ae _)) (fun hHeld=>?_);refine take_b 0 24 ?_;refine take_b 1 25 ?_;refine take_b 2 26 ?_;refine take_b 3 27 ?_;refine take_b 4 28 ?_;refine take_b 5 29 ?_;refine take_b 6 30 ?_;refine call_L (i:=7) 31 rfl rfl (by kernel_rfl) (fun K hK=>?_)
   go_simp
   go_at_call 50
   refine(add_q M HM.out _ _ (co p j) (co q j) _ (N3.out.mono (ae _)) (N2.out.mono (ae _)) BQ3.out BQ2.out).mono ?_;rintro e w5 ⟨v5,rfl,h5,kk5⟩;obtain⟨s5,A5,k5,ca5,B5,l5,cb5,rfl⟩:=h5.form2;have H5:=ZZ h5;have hx2:=ZZ (show Ext W6 w5 from al (ae _) kk5);clear h5 kk5
   try go_wp2_with fail
   refine hK.out _ _ (HC.out _ hx2.out) (fun hHeld=>?_);clear hK K
   try simp only [Act.put,lyA,lyB,lyC]
   refine take_b 8 32 ?_;refine last_L rfl (by kernel_rfl) (by kernel_rfl) (fun K hK=>?_);have hp5:=PO.out w5 hx2.out;obtain⟨-,cur5,-,hh5,-⟩:=id hp5;have zf0:=frozen_row hh5 (j*3);have zf1:=frozen_row hh5 (j*3+1);have zf2:=frozen_row hh5 (j*3+2);obtain⟨z0,z1,z2,-⟩:=HC.out w5 hx2.out;clear hp5 hh5
   go_simp
   refine hK.out _ _ ?_;clear hK K
   try simp only [Act.put,lyA,lyB,lyC]
   refine NoPanic.normal ?_;have HP7:=ZZ (PlO.set (PO.out w5 hx2.out) (by rw [stepL_len];exact HJP.out) H5.out);have E7:=ZZ (show Ext w (put3at w5 g (j*3) (.bool s5) (.slice A5 k5 ca5) (.slice B5 l5 cb5)) from (((al HE.out (al E6.out hx2.out)).setCell HG.out _).setCell HG.out _).setCell HG.out _);go_wp2_with fail
   go_roundg (gk - 1)
   case measure=>have:=HZ.out;omega
   case rel=>
    refine⟨j+1,ZZ (by have:=HJ.out;have:=HZ.out;omega),by have h1:=HLP.out;have h2:=HJP.out;rw [IntWalk.wrap64_in _ ⟨by omega,by omega⟩];rfl,ZZ ?_,E7⟩;have h8:=HP7.out;rw [stepL_succ p q HJP.out] at h8;exact .inr ⟨g,HG.out,h8⟩
theorem add_p (M:Nat) (hM:M≤1099511627776) (vp vq:Value) (p q:List Rat) (hlp:p.length≤1000000) (hlq:q.length≤1000000) (w:World) (hp:Pl w vp p) (hq:Pl w vq q) (hbp:∀x ∈ p,Bq M x) (hbq:∀x ∈ q,Bq M x):Calls Tryz.prog 77 #[vp,vq] w fun e w'=>∃v',e=.returned v'∧PlN w.heap.size w' v' (addF p q)∧Ext w w':=by
 rcases Nat.lt_or_ge p.length q.length with h|h
 ·rw [addF_comm]
  exact add_gt M hM vq vp q p hlq h w hq hp hbq hbp
 ·exact add_le M hM vp vq p q hlp h w hp hq hbp hbq
end Go.Proofs.YtaaoleakkaloeaaGreatDoor
set_option linter.unusedVariables false
set_option maxRecDepth 100000
set_option maxHeartbeats 64000000
namespace Go.Proofs.YtaaoleakkaloeaaGreatDoor
open Go.RowKit
theorem trim_mem {p:List Rat} {x:Rat} (h:x ∈ trimF p):x ∈ p:=by
 induction p with
 | nil=>exact h
 | cons a p ih=>
  have e:trimF (a :: p)=if trimF p=[] then (if a=0 then [] else [a]) else a :: trimF p:=rfl;rw [e] at h
  split at h
  ·split at h
   ·cases h
   ·rw [List.mem_singleton.1 h];exact List.mem_cons_self ..
  ·rcases List.mem_cons.1 h with h|h
   ·rw [h];exact List.mem_cons_self ..
   ·exact List.mem_cons_of_mem _ (ih h)
theorem bq_scale {M K:Nat} {p:List Rat} {x:Rat} (h:∀q ∈ p,Bq M q) (hx:Bq K x):∀q ∈ scaleF p x,Bq (M+K) q:=by
 intro q hq;obtain⟨r,hr,rfl⟩:=List.mem_map.1 (trim_mem hq);exact(h r hr).mul hx
def subF (p q:List Rat):List Rat:=addF p (scaleF q (-1))
theorem sub_p (M:Nat) (hM:M≤1099511627000) (vp vq:Value) (p q:List Rat) (hlp:p.length≤1000000) (hlq:q.length≤1000000) (w:World) (hp:Pl w vp p) (hq:Pl w vq q) (hbp:∀x ∈ p,Bq M x) (hbq:∀x ∈ q,Bq M x):Calls Tryz.prog 78 #[vp,vq] w fun e w'=>∃v',e=.returned v'∧PlN w.heap.size w' v' (subF p q)∧Ext w w':=by
 have HP:=ZZ hp;have HQ:=ZZ hq;have HLP:=ZZ hlp;have HLQ:=ZZ hlq;have HBP:=ZZ hbp;have HBQ:=ZZ hbq;have HM:=ZZ hM;clear hp hq hlp hlq hbp hbq hM
 go_enter Tryz.func78,Tryz.ntmps78
 go_wp2_with fail;refine(int_q (-1) (by decide) (by decide) w).mono ?_
 rintro e w3 ⟨v3,rfl,h3,k3⟩;have H3:=ZZ (show Nm w3 v3 (-1) from h3);have K3:=ZZ k3;clear h3 k3;go_wp2_with fail;have BN:=ZZ (show Bq 64 (-1:Rat) from bq_int (-1) (by decide) (by decide));refine(scale_q (M+64) (by have:=HM.out;omega) _ _ q (-1) HLQ.out _ (HQ.out.mono K3.out) H3.out (fun x hx=>(HBQ.out x hx).mono (by omega)) (BN.out.mono (by omega))).mono ?_;rintro e w5 ⟨v5,rfl,h5,k5⟩;have H5:=ZZ h5.pl;have K5:=ZZ (al K3.out k5);clear h5 k5;go_wp2_with fail;refine(add_p (M+64) (by have:=HM.out;omega) _ _ p (scaleF q (-1)) HLP.out (Nat.le_trans (trim_le _) (by rw [List.length_map];exact HLQ.out)) _ (HP.out.mono K5.out) H5.out (fun x hx=>(HBP.out x hx).mono (by omega)) (bq_scale HBQ.out BN.out)).mono ?_;rintro e w6 ⟨v6,rfl,h6,k6⟩;have H6:=ZZ h6;have K6:=ZZ k6;clear h6 k6;go_wp2_with fail;go_ret;refine⟨_,rfl,?_,al K5.out K6.out⟩
 rcases H6.out with hn|⟨g,hg,hn⟩
 ·exact .inl hn
 ·exact .inr ⟨g,Nat.le_trans K5.out.size hg,hn⟩
end Go.Proofs.YtaaoleakkaloeaaGreatDoor
set_option linter.unusedVariables false
set_option maxRecDepth 100000
set_option maxHeartbeats 64000000
namespace Go.Proofs.YtaaoleakkaloeaaGreatDoor
open Go.RowKit
theorem bq_inv2 {M:Nat} {x:Rat} (h:Bq M x) (h0:x≠0):Bq M (1 / x):=by
 have h1:=div_parts 1 x h0;rw [←h1];exact bq_rat (by rw [show (1:Rat).num=1 from rfl,show (1:Int).natAbs=1 from rfl,Nat.one_mul];exact h.2) (by rw [show (1:Rat).den=1 from rfl,Nat.one_mul];exact h.1) (by rw [show (1:Rat).den=1 from rfl,Nat.one_mul];exact fun e=>h0 (Rat.num_eq_zero.1 (Int.natAbs_eq_zero.1 e)))
def topF (p:List Rat):Rat:=co p (p.length - 1)
def monicF (p:List Rat):List Rat:=if trimF p=[] then [] else scaleF (trimF p) (1 / topF (trimF p))
theorem monic_p (M:Nat) (hM:M≤1099511627000) (vp:Value) (p:List Rat) (hlp:p.length≤1000000) (w:World) (hp:Pl w vp p) (hbp:∀x ∈ p,Bq M x):Calls Tryz.prog 79 #[vp] w fun e w'=>∃v',e=.returned v'∧PlN w.heap.size w' v' (monicF p)∧Ext w w':=by
 have HP:=ZZ hp;have HLP:=ZZ hlp;have HBP:=ZZ hbp;have HM:=ZZ hM;clear hp hlp hbp hM
 go_enter Tryz.func79,Tryz.ntmps79
 go_wp2_with fail;refine(trim_q _ p HLP.out _ HP.out).mono ?_
 rintro e w3 ⟨v3,rfl,h3,k3⟩;obtain⟨A,cap,e3,hc,hA⟩:=h3.pl;obtain⟨n,hn⟩:∃n,(trimF p).length=n:=⟨_,rfl⟩;rw [hn] at e3;subst e3;have HN:=ZZ hn;have H3:=ZZ h3.pl;have K3:=ZZ k3;have HT:=ZZ (show n≤p.length by rw [←hn];exact trim_le p);clear h3 k3 hc hA hn
 rcases Nat.eq_zero_or_pos n with h0|h0
 ·subst h0
  go_wp2_with fail;go_ret
  have e0:trimF p=[]:=List.length_eq_zero_iff.1 HN.out;exact⟨_,rfl,.inl ⟨rfl,if_pos e0⟩,K3.out⟩
 ·obtain⟨k,rfl⟩:∃k,n=k+1:=⟨n - 1,by omega⟩
  have z0:(((k+1:Nat):Int) == 0)=false:=by rw [beq_eq_false_iff_ne];omega
  have z1:((k:Int)+1 == 0)=false:=by rw [beq_eq_false_iff_ne];omega
  have HNE:=ZZ (show trimF p≠[] from fun e=>by have:=HN.out;rw [e] at this;simp at this)
  have HTOP:=ZZ (show (trimF p)[k]?=some (topF (trimF p)) by
   unfold topF co;rw [HN.out,Nat.add_sub_cancel,List.getElem?_eq_getElem (by rw [HN.out];exact Nat.lt_succ_self k)];rfl)
  have HT0:=ZZ (show topF (trimF p)≠0 by
   have h1:=trim_last HNE.out;unfold topF;rw [co_trim];exact h1)
  have BT:=ZZ (HBP.out _ (trim_mem (List.mem_of_getElem? HTOP.out)));have BONE:=ZZ (show Bq 64 (1:Rat) from bq_int 1 (by decide) (by decide));clear h0;go_wp2_with fail;refine(int_q 1 (by decide) (by decide) _).mono ?_;rintro e w4 ⟨v4,rfl,h4,k4⟩;have H4:=ZZ (show Nm w4 v4 1 from h4);have K4:=ZZ k4;clear h4 k4;go_wp2_with fail;have H3':=ZZ (show Pl w4 (.slice A (k+1) cap) (trimF p) from H3.out.mono K4.out);refine(top_q _ (trimF p) (by rw [HN.out];exact Nat.le_trans HT.out HLP.out) k _ HN.out HTOP.out _ H3'.out).mono ?_;rintro e w5 ⟨v5,rfl,h5,k5⟩;have H5:=ZZ h5;have K5:=ZZ k5;clear h5 k5;go_wp2_with fail;refine(over_q (M+64) (by have:=HM.out;omega) _ _ 1 (topF (trimF p)) _ (H4.out.mono K5.out) H5.out (BONE.out.mono (by omega)) (BT.out.mono (by omega)) HT0.out).mono ?_;rintro e w6 ⟨v6,rfl,h6,k6⟩;have H6:=ZZ h6;have K6:=ZZ (al K4.out (al K5.out k6));clear h6 k6;go_wp2_with fail;refine(scale_q M (by have:=HM.out;omega) _ _ (trimF p) (1 / topF (trimF p)) (by rw [HN.out];exact Nat.le_trans HT.out HLP.out) _ (H3.out.mono K6.out) H6.out (fun x hx=>HBP.out x (trim_mem hx)) (bq_inv2 BT.out HT0.out)).mono ?_;rintro e w7 ⟨v7,rfl,h7,k7⟩;have H7:=ZZ h7;have K7:=ZZ (al K3.out (al K6.out k7));have L7:=ZZ (al K3.out K6.out).size;clear h7 k7;go_wp2_with fail;go_ret;refine⟨_,rfl,?_,K7.out⟩;rw [show monicF p=scaleF (trimF p) (1 / topF (trimF p)) from if_neg HNE.out]
  rcases H7.out with hn|⟨g,hg,hn⟩
  ·exact .inl hn
  ·exact .inr ⟨g,Nat.le_trans L7.out hg,hn⟩
end Go.Proofs.YtaaoleakkaloeaaGreatDoor
