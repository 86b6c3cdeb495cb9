/- The sign of a polynomial at a root of another one. Printed by gen_zb.py. Tarski's query on a span with one root. -/
import Derived.Test.YtaaoleakkaloeaaGreatDoorGYo
import Derived.Test.YtaaoleakkaloeaaGreatDoorGZa
import Derived.Test.YtaaoleakkaloeaaGreatDoorGYz
set_option linter.unusedVariables false
set_option maxRecDepth 100000
set_option maxHeartbeats 64000000
namespace Go.Proofs.YtaaoleakkaloeaaGreatDoor
open Go Go.RowKit
set_option linter.unusedSimpArgs false
def tarskiF (p q:List Rat) (lo hi:Rat):Int:=betweenF (chainF (simpleF p) (mulF (derivF (simpleF p)) q)) lo hi
def signE (p:List Rat) (x y:Rat) (q:List Rat):Int × Int:=
 if bigF q then (0,3) else if askF p≠0 then (0,askF p) else if insideF p x y≠1 then (0,7) else
 match [x,y].find? (fun c=>decide ((evR p c).num.sign=0)) with
 | some c=>((evR q c).num.sign,0)
 | none=>(tarskiF p q (aq x y) (ar x y),0)
def signOk (M:Nat) (p q:List Rat):Bool:=simpleOk M p && smB M (simpleF p) && smB M (derivF (simpleF p)) && chainOk M (simpleF p) (mulF (derivF (simpleF p)) q) && cB M (chainF (simpleF p) (mulF (derivF (simpleF p)) q))
theorem find_none2 {f:Rat→Bool} {x y:Rat} (h:∀c ∈ [x,y],f c=false):[x,y].find? f=none:=by
 rw [List.find?_eq_none];intro c hc;rw [h c hc];exact Bool.false_ne_true
theorem find_at {f:Rat→Bool} {l:List Rat} {j:Nat} {c:Rat} (h:∀d ∈ l.take j,f d=false) (hc:l[j]?=some c) (hf:f c=true):l.find? f=some c:=by
 induction l generalizing j with
 | nil=>simp at hc
 | cons a r ih=>
  cases j with
  | zero=>obtain rfl:=Option.some.inj hc;rw [List.find?_cons,hf]
  | succ j=>
   rw [List.find?_cons,h a (by simp)];exact ih (j:=j) (fun d hd=>h d (by simp [hd])) (by simpa using hc)
theorem sign_at_p (M:Nat) (hM0:0<M) (hM:M≤4294967296) (v vs vq:Value) (p q:List Rat) (x y:Rat) (hlp:p.length≤100) (hlq:q.length≤100) (w:World) (hp:Pl w v p) (hs:Sp w vs x y) (hq:Pl w vq q) (bx:Bq M x) (by_:Bq M y) (hbp:∀c ∈ p,Bq M c) (hbq:∀c ∈ q,Bq M c) (hok:askF p=0→bigF q=false→ownOk M p=true) (hok2:askF p=0→bigF q=false→insideF p x y=1→signOk M p q=true) (hsl:(derivF (simpleF p)).length≤100) (D:Int × Int) (hD:signE p x y q=D):Calls Tryz.prog 22 #[v,vs,vq] w fun e w'=>e=.returned (.tuple #[.int .i64 D.1,.int .i64 D.2])∧Ext w w':=by
 have HSL1:=ZZ hsl;clear hsl;obtain⟨s1,A1,k1,ca1,B1,l1,cb1,s2,A2,k2,ca2,B2,l2,cb2,rfl,hxx,hyy⟩:=hs.form;obtain⟨A,n,c,rfl,-⟩:=hp.form;obtain⟨AQ,nq,cq,rfl,-⟩:=hq.form;obtain⟨b,hb⟩:∃b,bigF q=b:=⟨_,rfl⟩;obtain⟨z,hz⟩:∃z,askF p=z:=⟨_,rfl⟩;have HB0:=ZZ hb;have HB:=ZZ (show [q].any bigF=b by rw [←hb];simp);have HZ:=ZZ hz;have HLP:=ZZ hlp;have HLQ:=ZZ hlq;have HM0:=ZZ hM0;have HM:=ZZ hM;have BX:=ZZ bx;have BY:=ZZ by_;have HBP:=ZZ hbp;have HBQ:=ZZ hbq;have HOK:=ZZ hok;have HOK2:=ZZ hok2;have HD:=ZZ hD;have x1:=ac w (.cells #[.bool s1,.slice A1 k1 ca1,.slice B1 l1 cb1,.bool s2,.slice A2 k2 ca2,.slice B2 l2 cb2] 49);have E1:=ZZ x1;have HP:=ZZ (hp.mono x1);have HQ0:=ZZ (hq.mono x1);have HSP:=ZZ (hs.mono x1);have HXX:=ZZ (hxx.mono x1);have HYY:=ZZ (hyy.mono x1);have R1:=ZZ (heap_alloc_new w (.cells #[.bool s1,.slice A1 k1 ca1,.slice B1 l1 cb1,.bool s2,.slice A2 k2 ca2,.slice B2 l2 cb2] 49));have hun:undef=.tuple #[]:=rfl;clear hb hz hlp hlq hM0 hM bx by_ hok hok2 x1 hp hq hs hbp hbq hD hxx hyy
 go_enter Tryz.func22,Tryz.ntmps22
 go_upto_region 1 with (fail)
 generalize w.alloc (.cells #[.bool s1,.slice A1 k1 ca1,.slice B1 l1 cb1,.bool s2,.slice A2 k2 ca2,.slice B2 l2 cb2] _)=W1 at *;obtain⟨gx,hgx⟩:∃g,w.heap.size=g:=⟨_,rfl⟩;rw [hgx] at R1;rw [hgx];clear hgx;go_wp2_with fail;refine(asked_p _ p (by have:=HLP.out;omega) _ HP.out z HZ.out).mono ?_;rintro e w2 ⟨rfl,kk2⟩;have K2:=ZZ kk2;clear kk2;have HL1:=ZZ (pll_one (HQ0.out.mono K2.out));go_wp2_with fail;refine(long_p _ [q] (by simp) (fun l hl=>by rw [List.mem_singleton.1 hl];have:=HLQ.out;omega) _ HL1.out b HB.out).mono ?_;rintro e w3 ⟨rfl,kk3⟩;have K3:=ZZ (al K2.out (al (ac _ _) kk3));clear kk3 HL1 K2
 cases b with
 | true=>
  have HDE:=ZZ (show D=(0,3) from by rw [←HD.out];unfold signE;rw [HB0.out];rfl);go_wp2_with fail;refine bodyPost_ret (v:=.tuple #[.int .i64 0,.int .i64 3]) (by simp [results,Tryz.f22]) rfl ?_;rw [HDE.out];exact⟨rfl,al E1.out K3.out⟩
 | false=>
  by_cases h0:z=0
  ·subst h0
   obtain⟨zi,hzi⟩:∃z,insideF p x y=z:=⟨_,rfl⟩;have HZI:=ZZ hzi;have hin:=ZZ (inside_p M HM0.out HM.out _ _ p x y HLP.out _ (HP.out.mono K3.out) (HSP.out.mono K3.out) BX.out BY.out HBP.out (HOK.out HZ.out HB0.out));rw [hzi] at hin;clear hzi;obtain⟨p0,p1,p2,p3,p4,p5,-⟩:=ai ((K3.out.block _ (lt_of_block R1.out)).trans R1.out);go_wp2_with fail;refine hin.out.mono ?_;rintro e w5 ⟨rfl,kk5⟩;have K5:=ZZ (al K3.out kk5);clear kk5 hin p0 p1 p2 p3 p4 p5
   by_cases h1:zi=1
   ·subst h1
    have z1:decide ((1:Int)=1)=true:=rfl;have z2:((1:Int) != 1)=false:=rfl;obtain⟨p0,p1,p2,p3,p4,p5,-⟩:=ai ((K5.out.block _ (lt_of_block R1.out)).trans R1.out)
    go_upto_region 8 with (fail)
    have PT:=ZZ (pl_two (HXX.out.mono K5.out) (HYY.out.mono K5.out));have ET:=ZZ (ac w5 (.cells #[.bool s1,.slice A1 k1 ca1,.slice B1 l1 cb1,.bool s2,.slice A2 k2 ca2,.slice B2 l2 cb2] 36))
    go_upto_block 1 with (fail)
    generalize w5.alloc (.cells #[.bool s1,.slice A1 k1 ca1,.slice B1 l1 cb1,.bool s2,.slice A2 k2 ca2,.slice B2 l2 cb2] _)=W2 at *;obtain⟨gs,hgs⟩:∃g,w5.heap.size=g:=⟨_,rfl⟩;rw [hgs] at PT;rw [hgs];clear hgs
    have HT:=ZZ (show ∀(i:Nat) (c:Rat),[x,y][i]?=some c→Tri W2 gs (i*3) c from by
     obtain⟨A9,c9,e9,-,h9⟩:=PT.out
     injection e9 with e1 e2 e3
     subst e1
     rcases h9 with ⟨h9,-⟩|⟨b9,o9,h9,ht⟩
     ·cases h9
     ·injection h9 with h9
      injection h9 with hb9 ho9
      subst hb9;subst ho9;intro i c hc
      have:=ht i c hc
      rwa [Nat.zero_add] at this)
    have E2:=ZZ (al K5.out ET.out);clear PT ET K3 K5 p0 p1 p2 p3 p4 p5
    go_loopg [35] 2 (fun k i wr=>∃j,Hid (j+k=2)∧i=.int .i64 (j:Int)∧Hid (∀d ∈ [x,y].take j,decide ((evR p d).num.sign=0)=false)∧Hid (Ext W2 wr))
    case atStart=>exact⟨0,ZZ rfl,rfl,ZZ (by intro d hd;simp at hd),ZZ (af _)⟩
    case round=>
     obtain⟨j,HJ,rfl,HN,HE⟩:=hrel;rename World=>WR
     rcases Nat.eq_zero_or_pos gk with hz|hz
     ·subst hz
      obtain rfl:j=2:=HJ.out;have q1:decide (((2:Nat):Int)<2)=false:=rfl;have EW:=ZZ (al E2.out HE.out);have HSO:=HOK2.out HZ.out HB0.out HZI.out;unfold signOk at HSO
      simp only [Bool.and_eq_true] at HSO
      obtain⟨⟨⟨⟨o1,o2⟩,o3⟩,o4⟩,o5⟩:=HSO;have SIM:=ZZ o1;have SM1:=ZZ (sm_of o2);have SM2:=ZZ (sm_of o3);have CHO:=ZZ o4;have CB:=ZZ o5;have LS:=ZZ (show (simpleF p).length≤1001 from Nat.le_trans (simple_len p) (by have:=HLP.out;omega));have LD:=HSL1;have LM:=ZZ (show (mulF (derivF (simpleF p)) q).length≤2001 from Nat.le_trans (mulF_len _ _) (by have h1:=LD.out;have h2:=HLQ.out;omega));have LC:=ZZ (show (chainF (simpleF p) (mulF (derivF (simpleF p)) q)).length≤1000000 from Nat.le_trans (chain_len _ _) (by have h1:=LS.out;have h2:=LM.out;omega))
      have HDE:=ZZ (show D=(tarskiF p q (aq x y) (ar x y),0) from by
       rw [←HD.out];unfold signE;rw [HB0.out,HZ.out,HZI.out,if_neg (by decide),if_neg (by decide),if_neg (by decide),find_none2 (fun c hc=>HN.out c hc)])
      clear o1 o2 o3 o4 o5 HT HN HXX HYY;obtain⟨p0,p1,p2,p3,p4,p5,-⟩:=ai ((EW.out.block _ (lt_of_block R1.out)).trans R1.out);go_wp2_with fail;refine(sorted_p M (by have:=HM.out;omega) _ x y _ (HSP.out.mono EW.out) BX.out BY.out).mono ?_;rintro e w7 ⟨v5,v6,rfl,h5,h6,kk7⟩;obtain⟨s5,A5,k5,ca5,B5,l5,cb5,rfl⟩:=h5.form2;obtain⟨s6,A6,k6,ca6,B6,l6,cb6,rfl⟩:=h6.form2;have H5:=ZZ h5;have H6:=ZZ h6;have K7:=ZZ kk7;clear h5 h6 kk7 p0 p1 p2 p3 p4 p5
      go_upto_region 15 with (fail)
      have y1:=ac w7 (.cells #[.bool s5,.slice A5 k5 ca5,.slice B5 l5 cb5] 36);have y2:=ac (w7.alloc (.cells #[.bool s5,.slice A5 k5 ca5,.slice B5 l5 cb5] 36)) (.cells #[.bool s6,.slice A6 k6 ca6,.slice B6 l6 cb6] 36);have r1:=(y2.block _ (lt_of_block (heap_alloc_new w7 (.cells #[.bool s5,.slice A5 k5 ca5,.slice B5 l5 cb5] 36)))).trans (heap_alloc_new w7 (.cells #[.bool s5,.slice A5 k5 ca5,.slice B5 l5 cb5] 36));have r2:=heap_alloc_new (w7.alloc (.cells #[.bool s5,.slice A5 k5 ca5,.slice B5 l5 cb5] 36)) (.cells #[.bool s6,.slice A6 k6 ca6,.slice B6 l6 cb6] 36);rw [World.size_alloc] at r2;have E8:=ZZ (al EW.out (al K7.out (al y1 y2)));have N1:=ZZ (H5.out.mono (al y1 y2));have N2:=ZZ (H6.out.mono (al y1 y2));have RA:=ZZ r1;have RB:=ZZ r2;clear y1 y2 r1 r2 H5 H6 K7;generalize (w7.alloc (.cells #[.bool s5,.slice A5 k5 ca5,.slice B5 l5 cb5] _)).alloc (.cells #[.bool s6,.slice A6 k6 ca6,.slice B6 l6 cb6] _)=W8 at *;obtain⟨ga,hga⟩:∃g,w7.heap.size=g:=⟨_,rfl⟩;obtain⟨gb,hgb⟩:∃g,w7.heap.size+1=g:=⟨_,rfl⟩;rw [hga] at RA;rw [hgb] at RB;rw [hgb,hga];clear hga hgb;go_wp2_with fail;refine(simple_p M HM0.out (Nat.le_trans HM.out (by decide)) _ p (by have:=HLP.out;omega) _ (HP.out.mono E8.out) SIM.out).mono ?_;rintro e W4 ⟨vS,rfl,hS,kkS⟩;obtain⟨AS,nS,cS,rfl,-⟩:=hS.form;have HPS:=ZZ hS;have N5:=ZZ (N1.out.mono kkS);have N6:=ZZ (N2.out.mono kkS);have HQ:=ZZ (HQ0.out.mono (al E8.out kkS));have E9:=ZZ (al E8.out kkS)
      have HC:=ZZ (show ∀W,Ext W4 W→W.cell? ⟨ga,0,none⟩=some (.bool s5)∧W.cell? ⟨ga,1,none⟩=some (.slice A5 k5 ca5)∧W.cell? ⟨ga,2,none⟩=some (.slice B5 l5 cb5)∧W.cell? ⟨gb,0,none⟩=some (.bool s6)∧W.cell? ⟨gb,1,none⟩=some (.slice A6 k6 ca6)∧W.cell? ⟨gb,2,none⟩=some (.slice B6 l6 cb6) from fun W k=>by
       obtain⟨y0,y1,y2,-⟩:=aj (((al kkS k).block _ (lt_of_block RA.out)).trans RA.out);obtain⟨u0,u1,u2,-⟩:=aj (((al kkS k).block _ (lt_of_block RB.out)).trans RB.out);exact⟨y0,y1,y2,u0,u1,u2⟩)
      clear hS kkS N1 N2
      go_upto_region 16 with (fail)
      refine wp_region_noPanic ?_;refine wp_region_held_drew (S:=fun W=>W.cell? ⟨ga,0,none⟩=some (.bool s5)∧W.cell? ⟨ga,1,none⟩=some (.slice A5 k5 ca5)∧W.cell? ⟨ga,2,none⟩=some (.slice B5 l5 cb5)∧W.cell? ⟨gb,0,none⟩=some (.bool s6)∧W.cell? ⟨gb,1,none⟩=some (.slice A6 k6 ca6)∧W.cell? ⟨gb,2,none⟩=some (.slice B6 l6 cb6)) (by kernel_rfl) (HC.out _ (ae _)) (fun hHeld=>?_);refine take_a 0 56 ?_;refine take_a 1 57 ?_;refine take_a 3 59 ?_;refine take_a 6 62 ?_;refine take_a 7 63 ?_;refine call_p (i:=2) (some 58) rfl rfl (by kernel_rfl) (fun K hK=>?_)
      go_simp
      go_at_call 57
      refine(deriv_p M HM0.out (by have:=HM.out;omega) _ (simpleF p) (by have:=LS.out;omega) _ (HPS.out.mono (ae _)) SM1.out).mono ?_;rintro e x2 ⟨u2,rfl,h2,kk2⟩;have D2:=ZZ h2.pl;have hx2:=ZZ (show Ext W4 x2 from al (ae _) kk2);clear h2 kk2
      try go_wp2_with fail
      refine hK.out _ _ (HC.out _ hx2.out) (fun hHeld=>?_);clear hK K
      try simp only [Act.put,lyA,lyB,lyC]
      refine call_p (i:=4) (some 60) rfl rfl (by kernel_rfl) (fun K hK=>?_)
      go_simp
      go_at_call 56
      refine(mul_p M HM0.out _ _ (derivF (simpleF p)) q (by have:=LD.out;omega) (by have:=HLQ.out;omega) (by have h1:=LD.out;have h2:=HM.out;have h3:(derivF (simpleF p)).length*(M+M+1)≤100*8589934593:=Nat.mul_le_mul (by omega) (by omega);omega) _ D2.out (HQ.out.mono hx2.out) SM2.out HBQ.out).mono ?_;rintro e x4 ⟨u4,rfl,h4,kk4⟩;have D4:=ZZ h4.pl;have hx4:=ZZ (al hx2.out kk4);clear h4 kk4 D2
      try go_wp2_with fail
      refine hK.out _ _ (HC.out _ hx4.out) (fun hHeld=>?_);clear hK K
      try simp only [Act.put,lyA,lyB,lyC]
      refine call_p (i:=5) (some 61) rfl rfl (by kernel_rfl) (fun K hK=>?_)
      go_simp
      go_at_call 37
      refine(chain_p M HM0.out HM.out _ _ (simpleF p) (mulF (derivF (simpleF p)) q) (by have:=LS.out;omega) (by have:=LM.out;omega) _ (HPS.out.mono hx4.out) D4.out CHO.out).mono ?_;rintro e x5 ⟨u5,rfl,h5,kk5⟩;have D5:=ZZ h5;have hx5:=ZZ (al hx4.out kk5);clear h5 kk5 D4
      try go_wp2_with fail
      refine hK.out _ _ (HC.out _ hx5.out) (fun hHeld=>?_);clear hK K
      try simp only [Act.put,lyA,lyB,lyC]
      refine call_p (i:=8) (some 64) rfl rfl (by kernel_rfl) (fun K hK=>?_)
      go_simp
      go_at_call 43
      refine(between_p M HM0.out HM.out _ _ _ (chainF (simpleF p) (mulF (derivF (simpleF p)) q)) (aq x y) (ar x y) LC.out CB.out _ D5.out (N5.out.mono hx5.out) (N6.out.mono hx5.out) (bq_minQ BX.out BY.out) (bq_maxQ BX.out BY.out)).mono ?_;rintro e x8 ⟨rfl,kk8⟩;have hx8:=ZZ (al hx5.out kk8);clear kk8 D5
      try go_wp2_with fail
      refine hK.out _ _ (HC.out _ hx8.out) (fun hHeld=>?_);clear hK K
      try simp only [Act.put,lyA,lyB,lyC]
      refine take_a 9 6 ?_;refine take_a 10 7 ?_;refine wpAnyH_done (by kernel_rfl) ?_ _;refine NoPanic.normal ?_;rw [show betweenF (chainF (simpleF p) (mulF (derivF (simpleF p)) q)) (aq x y) (ar x y)=tarskiF p q (aq x y) (ar x y) from rfl];obtain⟨zt,hzt⟩:∃z,tarskiF p q (aq x y) (ar x y)=z:=⟨_,rfl⟩;rw [hzt] at HDE;rw [hzt];clear hzt;go_wp2_with fail;refine bodyPost_ret (v:=.tuple #[.int .i64 zt,.int .i64 0]) (by simp [results,Tryz.f22]) rfl ?_;rw [HDE.out];exact⟨rfl,al E1.out (al E9.out hx8.out)⟩
     ·have hj2:j<2:=by have:=HJ.out;omega
      have q1:decide ((j:Int)<2)=true:=decide_eq_true (by omega);have q4:(j:Int)<2:=by omega
      have q5:(0:Int)≤(j:Int):=by omega
      obtain⟨cc,hcc⟩:∃c,[x,y][j]?=some c:=⟨[x,y][j]'(by simpa using hj2),List.getElem?_eq_getElem _⟩;obtain⟨s7,A7,k7,ca7,B7,l7,cb7,c0,c1,c2,hn7⟩:=(HT.out j cc hcc).mono HE.out;have HCC:=ZZ hcc
      have BC:=ZZ (show Bq M cc from by
       have h:=List.mem_of_getElem? hcc
       simp only [List.mem_cons,List.mem_nil_iff,or_false] at h
       rcases h with rfl|rfl
       exact BX.out;exact BY.out)
      have HZK:=ZZ hz;have HJ2:=ZZ hj2;have RN:=ZZ (heap_alloc_new WR (.cells #[.bool s7,.slice A7 k7 ca7,.slice B7 l7 cb7] 36));have EN:=ZZ (ac WR (.cells #[.bool s7,.slice A7 k7 ca7,.slice B7 l7 cb7] 36));have HN7:=ZZ (hn7.mono EN.out);clear hcc hz hj2 hn7
      go_upto_region 11 with (fail)
      generalize WR.alloc (.cells #[.bool s7,.slice A7 k7 ca7,.slice B7 l7 cb7] _)=WA at *;obtain⟨gn,hgn⟩:∃g,WR.heap.size=g:=⟨_,rfl⟩;rw [hgn] at RN;rw [hgn];clear hgn c0 c1 c2;obtain⟨p0,p1,p2,-⟩:=aj RN.out;have EWA:=ZZ (al E2.out (al HE.out EN.out));have hev:=ZZ (eval_p M HM0.out _ _ p cc (by have:=HLP.out;omega) (k_of HM.out HLP.out) _ (HP.out.mono EWA.out) HN7.out HBP.out BC.out);go_wp2_with fail;refine hev.out.mono ?_;rintro e w7 ⟨u7,rfl,h7,kk7⟩;have H7:=ZZ h7;have K7:=ZZ kk7;clear h7 kk7 hev p0 p1 p2;obtain⟨sg,hsg⟩:∃z,(evR p cc).num.sign=z:=⟨_,rfl⟩;have HSG:=ZZ hsg;clear hsg;go_wp2_with fail;refine(sign_q' _ (evR p cc) _ sg HSG.out H7.out).mono ?_;rintro e w8 ⟨rfl,kk8⟩;have K8:=ZZ (al K7.out kk8);clear kk8 K7 H7
      by_cases h0:sg=0
      ·subst h0
       have z0:((0:Int) == 0)=true:=rfl;obtain⟨sq,hsq⟩:∃z,(evR q cc).num.sign=z:=⟨_,rfl⟩;have HSQ:=ZZ hsq
       have HDE:=ZZ (show D=(sq,0) from by
        rw [←HD.out];unfold signE;rw [HB0.out,HZ.out,HZI.out,if_neg (by decide),if_neg (by decide),if_neg (by decide),find_at (fun c hc=>HN.out c hc) HCC.out (decide_eq_true HSG.out),←hsq])
       clear hsq;obtain⟨p0,p1,p2,-⟩:=aj ((K8.out.block _ (lt_of_block RN.out)).trans RN.out);have hev:=ZZ (eval_p M HM0.out _ _ q cc (by have:=HLQ.out;omega) (k_of HM.out HLQ.out) _ (HQ0.out.mono (al EWA.out K8.out)) (HN7.out.mono K8.out) HBQ.out BC.out);go_wp2_with fail;refine hev.out.mono ?_;rintro e w9 ⟨u9,rfl,h9,kk9⟩;have H9:=ZZ h9;have K9:=ZZ (al K8.out kk9);clear h9 kk9 hev p0 p1 p2;go_wp2_with fail;refine(sign_q' _ (evR q cc) _ sq HSQ.out H9.out).mono ?_;rintro e w10 ⟨rfl,kk10⟩;have K10:=ZZ (al E1.out (al EWA.out (al K9.out kk10)));clear kk10;go_wp2_with fail;refine bodyPost_ret (v:=.tuple #[.int .i64 sq,.int .i64 0]) (by simp [results,Tryz.f22]) rfl ?_;rw [HDE.out];exact⟨rfl,K10.out⟩
      ·have z0:(sg == 0)=false:=beq_eq_false_iff_ne.2 h0
       have HS0:=ZZ (show decide ((evR p cc).num.sign=0)=false from decide_eq_false (by rw [HSG.out];exact h0));clear h0;go_wp2_with fail
       go_roundg (gk - 1)
       case measure=>have:=HZK.out;omega
       case rel=>
        refine⟨j+1,ZZ (by have:=HJ.out;have:=HZK.out;omega),rfl,ZZ ?_,ZZ (al HE.out (al EN.out K8.out))⟩;rw [List.take_add_one,HCC.out,Option.toList_some];intro d hd
        rcases List.mem_append.1 hd with hd|hd
        ·exact HN.out d hd
        ·rw [List.mem_singleton.1 hd];exact HS0.out
   ·have z1:decide (zi=1)=false:=decide_eq_false h1
    have z2:(zi != 1)=true:=bne_iff_ne.2 h1;have HDE:=ZZ (show D=(0,7) from by rw [←HD.out];unfold signE;rw [HB0.out,HZ.out,HZI.out,if_neg (by decide),if_neg (by decide),if_pos h1]);clear h1;go_wp2_with fail;refine bodyPost_ret (v:=.tuple #[.int .i64 0,.int .i64 7]) (by simp [results,Tryz.f22]) rfl ?_;rw [HDE.out];exact⟨rfl,al E1.out K5.out⟩
  ·have z0:(z == 0)=false:=beq_eq_false_iff_ne.2 h0
   have z1:(z != 0)=true:=bne_iff_ne.2 h0;have z2:decide (z=0)=false:=decide_eq_false h0;have HDE:=ZZ (show D=(0,z) from by rw [←HD.out];unfold signE;rw [HB0.out,HZ.out,if_neg (by decide),if_pos h0]);clear h0;go_wp2_with fail;refine bodyPost_ret (v:=.tuple #[.int .i64 0,.int .i64 z]) (by simp [results,Tryz.f22]) rfl ?_;rw [HDE.out];exact⟨rfl,al E1.out K3.out⟩
end Go.Proofs.YtaaoleakkaloeaaGreatDoor
set_option linter.unusedVariables false
set_option maxRecDepth 100000
set_option maxHeartbeats 64000000
namespace Go.Proofs.YtaaoleakkaloeaaGreatDoor
set_option linter.unusedSimpArgs false
theorem pos_of_mul' {a b:Rat} (h:0<a*b) (hb:0<b):0<a:=by
 rcases lt_or_le' 0 a with g|g
 ·exact g
 ·exfalso
  have:=Rat.mul_nonneg (show 0≤-a by grind) (Rat.le_of_lt hb)
  grind
theorem chg_vals' (s t:Rat) (hs:Pm s) (ht:Pm t):chg (si s) (si t)=if s=t then 0 else 1:=chg_vals s t hs ht
theorem between_self (c:List (List Rat)) (x:Rat):betweenF c x x=0:=by rw [between_v];omega
theorem iso_small {p:List Rat} (h0:0<dgF p) {u v δ:Rat} (huv:u≤v) (hδ:0<δ) (hN:betweenF (ownF p) u v=1) (hu:evR p u≠0) (hv:evR p v≠0):∃a b,u≤a∧a≤b∧b≤v∧b - a≤δ∧evR p a≠0∧evR p b≠0∧betweenF (ownF p) u a=0∧betweenF (ownF p) a b=1∧betweenF (ownF p) b v=0:=by
 obtain⟨B,hB,hin⟩:=ab_two u v
 obtain⟨d,d0,hnb⟩:∃d,0<d∧∀x y,u≤x→x<y→y≤v→y - x≤d→evR p x≠0∨evR p y≠0:=by
  rcases own_chain h0 with ⟨d1,c,e,k,hk,hc⟩|⟨-,p0,q,l,k,μ,e,hc,hk,hp0,hμ,hq⟩
  ·refine⟨1,by decide,fun x y _ _ _ _=>.inl fun z=>?_⟩
   rw [e,between_v,vF_const hk hc u v] at hN;omega
  ·obtain⟨d,ε,d0,ε0,hp⟩:=piece3 hB hc hμ hq
   refine⟨d,d0,fun x y h1 h2 h3 h4=>?_⟩
   rcases Classical.em (evR p x=0) with g|g
   ·refine .inr fun g2=>?_
    have s1:evR p0 x=0:=by rw [hp0,(root_simple h0 x).1 g];grind
    have s2:evR p0 y=0:=by rw [hp0,(root_simple h0 y).1 g2];grind
    rcases hp x y (hin x h1 (by grind)) (hin y (by grind) h3) (Rat.le_of_lt h2) h4 with ⟨s,hs,hlo,-⟩|⟨s,hs,hup,-⟩
    ·have:=hlo x Rat.le_refl (Rat.le_of_lt h2)
     rw [s1] at this;grind
    ·have:=hup x y Rat.le_refl h2 Rat.le_refl
     rw [s1,s2] at this
     grind
   ·exact .inl g
 obtain⟨m,m0,m1,m2⟩:=min_ex d0 hδ;obtain⟨n,hn⟩:=arch (show 0<m / 2 by grind) (v - u)
 have key:∀(n:Nat) (a:Rat),u≤a→a≤v→evR p a≠0→betweenF (ownF p) u a=0→v - a≤(n:Rat)*(m / 2)→∃a b,u≤a∧a≤b∧b≤v∧b - a≤δ∧evR p a≠0∧evR p b≠0∧betweenF (ownF p) u a=0∧betweenF (ownF p) a b=1∧betweenF (ownF p) b v=0:=by
  intro n
  induction n with
  | zero=>
   intro a h1 h2 h3 h4 h5
   exfalso
   have e:((0:Nat):Rat)=0:=rfl;rw [e] at h5
   have:a=v:=by grind
   rw [this,hN] at h4;exact absurd h4 (by decide)
  | succ n ih=>
   intro a h1 h2 h3 h4 h5;have hadd:=between_add (ownF p) u a v
   rcases lt_or_le' m (v - a) with g|g
   ·
    obtain⟨z,z1,z2,z3⟩:∃z,a+m / 2≤z∧z≤a+m∧evR p z≠0:=by
     rcases hnb (a+m / 2) (a+m) (by grind) (by grind) (by grind) (by grind) with h|h
     ·exact⟨_,Rat.le_refl,by grind,h⟩
     ·exact⟨_,by grind,Rat.le_refl,h⟩
    have c1:=count_pos h0 (show a≤z by grind);have c2:=count_pos h0 (show z≤v by grind);have c3:=between_add (ownF p) a z v;have c4:=between_add (ownF p) u a z
    rcases Classical.em (betweenF (ownF p) a z=0) with w|w
    ·refine ih z (by grind) (by grind) z3 (by omega) ?_
     rw [Rat.natCast_add] at h5;have e:((1:Nat):Rat)=1:=rfl;rw [e] at h5
     grind
    ·exact⟨a,z,h1,by grind,by grind,by grind,h3,z3,h4,by omega,by omega⟩
   ·exact⟨a,v,h1,h2,Rat.le_refl,by grind,h3,hv,h4,by omega,between_self _ _⟩
 exact key n u Rat.le_refl huv hu (between_self _ _) hn
theorem flip01 {p:List Rat} (h0:0<dgF p) {B:Rat} (hB:0≤B):∃d,0<d∧∀a b,Ab B a→Ab B b→a≤b→b - a≤d→evR p a≠0→evR p b≠0→(betweenF (ownF p) a b=0∧∃ σ,Pm σ∧0<σ*evR (simpleF p) a∧0<σ*evR (simpleF p) b)∨(betweenF (ownF p) a b=1∧∃ σ,Pm σ∧0 < -σ*evR (simpleF p) a∧0<σ*evR (simpleF p) b∧Fx σ (derivF (simpleF p)) a b):=by
 rcases own_chain h0 with ⟨d1,c,e,k,hk,hc⟩|⟨-,p0,q,l,k,μ,e,hc,hk,hp0,hμ,hq⟩
 ·refine⟨1,by decide,fun a b _ _ _ _ ha hb=>.inl ⟨by rw [e,between_v,vF_const hk hc a b];omega,?_⟩⟩
  have h1:∀t,evR (simpleF p) t=co (simpleF p) 0:=fun t=>ev_dg1 (by omega) t;have hsx:evR (simpleF p) a≠0:=fun e=>ha ((root_simple h0 a).2 e);rw [h1] at hsx;obtain⟨σ,hσ,h2⟩:=pm_of (co (simpleF p) 0);have h3:0<σ*co (simpleF p) 0:=by rcases hσ with rfl|rfl <;> grind
  exact⟨σ,hσ,by rw [h1];exact h3,by rw [h1];exact h3⟩
 ·obtain⟨d,ε,d0,ε0,hp⟩:=piece3 hB hc hμ hq
  refine⟨d,d0,fun a b ha hb hab hba na nb=>?_⟩
  have back:∀(τ t:Rat),0<τ*evR p0 t→0<τ*evR (simpleF p) t:=fun τ t h=>by
   rw [hp0,←Rat.mul_assoc] at h;exact pos_of_mul' h hk
  have nz:∀t,evR p t≠0→evR p0 t≠0:=fun t h e=>by
   rw [hp0] at e
   rcases Rat.mul_eq_zero.1 e with z|z
   ·exact h ((root_simple h0 t).2 z)
   ·grind
  rcases hp a b ha hb hab hba with ⟨s,hs,hlo,N,hV⟩|⟨s,hs,hup,hfx,N,hV⟩
  ·refine .inl ⟨?_,s,hs,back s a ?_,back s b ?_⟩
   ·rw [between_v,e,hV a Rat.le_refl hab,hV b hab Rat.le_refl];omega
   ·have:=hlo a Rat.le_refl hab;grind
   ·have:=hlo b hab Rat.le_refl;grind
  ·have hle:s*evR p0 a≤s*evR p0 b:=by
    rcases lt_or_le' a b with g|g
    ·exact Rat.le_of_lt (hup a b Rat.le_refl g Rat.le_refl)
    ·rw [show a=b by grind];exact Rat.le_refl
   have n1:=nz a na;have n2:=nz b nb;rw [between_v,e,hV a Rat.le_refl hab,hV b hab Rat.le_refl];have k1:=chg_vals' s s hs hs;rw [if_pos rfl] at k1;have k2:=chg_vals' (-s) s hs.neg hs;rw [if_neg (by rcases hs with rfl|rfl <;> grind)] at k2
   rcases lt_or_le' 0 (s*evR p0 a) with g|g
   ·have g2:0<s*evR p0 b:=by grind
    refine .inl ⟨?_,s,hs,back s a g,back s b g2⟩;rw [at_si hs g,at_si hs g2];omega
   ·have g1:0 < -s*evR p0 a:=by rcases hs with rfl|rfl <;> grind
    rcases lt_or_le' 0 (s*evR p0 b) with y|y
    ·refine .inr ⟨?_,s,hs,back (-s) a g1,back s b y,fun t h1 h2=>?_⟩
     ·rw [at_si hs.neg g1,at_si hs y];omega
     ·have h3:=hfx t h1 h2
      have hd:evR (derivF p0) t=evR (derivF (simpleF p)) t*k:=by
       rw [deriv_prod (p:=simpleF p) (q:=[k]) (fun x=>by rw [ev_const];exact hp0 x),ev_const];have z:evR (derivF [k]) t=0:=dgz (by rw [dg_deriv];have:=dg_len [k];simp at this;omega) t;rw [z];grind
      rw [hq,hd,show s*(μ*(evR (derivF (simpleF p)) t*k))=s*evR (derivF (simpleF p)) t*(μ*k) by grind] at h3;exact pos_of_mul' h3 (Rat.mul_pos hμ hk)
    ·have g2:0 < -s*evR p0 b:=by rcases hs with rfl|rfl <;> grind
     refine .inl ⟨?_,-s,hs.neg,back (-s) a g1,back (-s) b g2⟩;rw [at_si hs.neg g1,at_si hs.neg g2];omega
inductive Tm (D:List Rat):List (List Rat)→List (List Rat)→Prop
 | nil:Tm D [] []
 | cons {a b:List Rat} {l m:List (List Rat)}:(∀x,evR a x=evR D x*evR b x)→Tm D l m→Tm D (a :: l) (b :: m)
theorem at_times {D a b:List Rat} {σ x:Rat} (hσ:Pm σ) (hD:0<σ*evR D x) (e:evR a x=evR D x*evR b x):atF x a=si σ*atF x b:=by
 rcases at_cases x b with ⟨e1,h⟩|⟨e1,h⟩|⟨e1,h⟩
 ·rw [e1]
  rw [h] at e
  have:evR a x=0:=by grind
  rw [(atF_zero).2 this];omega
 ·rw [e1]
  have h2:=Rat.mul_pos hD h
  have:=at_si (p:=a) hσ (x:=x) (by rw [e];grind)
  rw [this];omega
 ·rw [e1]
  have h2:=Rat.mul_pos hD (show 0 < -evR b x by grind)
  have:=at_si (p:=a) hσ.neg (x:=x) (by rw [e];grind)
  rw [this,(si_not hσ).1];omega
theorem chg_si {σ:Rat} (hσ:Pm σ) (u v:Int):chg (si σ*u) (si σ*v)=chg u v:=by
 unfold chg
 rcases(si_not hσ).2 with e|e <;> rw [e]
 ·rw [Int.one_mul,Int.one_mul]
 ·have:((-1*u=1∧-1*v = -1)∨(-1*u = -1∧-1*v=1))↔((u=1∧v = -1)∨(u = -1∧v=1)):=by omega
  by_cases h:(u=1∧v = -1)∨(u = -1∧v=1)
  ·rw [if_pos h,if_pos (this.2 h)]
  ·rw [if_neg h,if_neg fun k=>h (this.1 k)]
theorem Tm.flips {D:List Rat} {c m:List (List Rat)} (h:Tm D c m) {σ x:Rat} (hσ:Pm σ) (hD:0<σ*evR D x):∀last,flipsU (si σ*last) (c.map (atF x))=flipsU last (m.map (atF x)):=by
 induction h with
 | nil=>intro last;rfl
 | @cons a b l m e h ih=>
  intro last;rw [List.map_cons,List.map_cons,flips_cons,flips_cons,at_times hσ hD (e x)]
  rcases at_cases x b with ⟨e1,-⟩|⟨e1,-⟩|⟨e1,-⟩
  ·rw [e1,if_pos rfl,if_pos (by omega),ih]
  ·have h1:=(si_not hσ).2
   have h2:¬(si σ*1=0):=by omega
   rw [e1,if_neg h2,if_neg (by decide),chg_si hσ,ih]
  ·have h1:=(si_not hσ).2
   have h2:¬(si σ*-1=0):=by omega
   rw [e1,if_neg h2,if_neg (by decide),chg_si hσ,ih]
theorem Tm.v {D:List Rat} {c m:List (List Rat)} (h:Tm D c m) {x:Rat} (hD:evR D x≠0):vF c x=vF m x:=by
 obtain⟨σ,hσ,h1⟩:=pm_of (evR D x)
 have:=h.flips hσ (x:=x) (by rcases hσ with rfl|rfl <;> grind) 0
 rw [Int.mul_zero] at this;exact this
theorem chn_gen:∀(n:Nat) (p q D P Q:List Rat),0<dgF p→0<dgF q→dgF q<n→0<dgF D→(∀x,evR p x=evR D x*evR P x)→(∀x,evR q x=evR D x*evR Q x)→Cop P Q→∃l,Chn (P :: Q :: l)∧Tm D (chainU (n+1) p q) (P :: Q :: l)
 | 0,p,q,D,P,Q,_,_,h,_,_,_,_=>by omega
 | n+1,p,q,D,P,Q,hp,hq,hn,hD,eP,eQ,hc=>by
  have P0:=(dg_parts eP hp).2;have Q0:=(dg_parts eQ hq).2;rw [chain_two (n+1) (ne_of_dg hp) (ne_of_dg hq)];obtain⟨d1,-,-⟩:=div_ev p q hq;have dr:=div_dg p q hq;have e1:∀x,evR (scaleF (divF p q).2 (-1)) x=evR (divF p q).2 x*(-1):=fun x=>ev_scaleF _ _ x;have dr2:dgF (scaleF (divF p q).2 (-1))=dgF (divF p q).2:=Nat.le_antisymm (dg_scale e1) (dg_scale (c:=-1) fun x=>by rw [e1];grind);obtain⟨R,hR⟩:∃R,subF P (mulF (divF p q).1 Q)=R:=⟨_,rfl⟩;have eR:∀x,evR R x=evR P x - evR (divF p q).1 x*evR Q x:=fun x=>by rw [←hR,ev_subF,ev_mulF]
  have er:∀x,evR (divF p q).2 x=evR D x*evR R x:=fun x=>by
   have h1:=d1 x;rw [eP,eQ] at h1;rw [eR];grind
  rcases Nat.eq_zero_or_pos (dgF (divF p q).2) with h|h
  ·rw [small_nil (by omega),chain_one n (ne_of_dg hq)]
   refine⟨[],.two hc ?_,.cons eP (.cons eQ .nil)⟩
   have hR0:∀x,evR R x=0:=by
    have:=ev_cancel (p:=D) (q:=R) (r:=[]) hD (fun x=>by rw [←er,dgz h,ev_nil];grind)
    intro x;rw [this,ev_nil]
   obtain⟨u,v,e⟩:=hc
   have h1:Dv Q [1]:=⟨addF (mulF u (divF p q).1) v,fun x=>by
    have h2:=eR x;rw [hR0] at h2;rw [ev_one,ev_addF,ev_mulF,←e x,show evR P x=evR (divF p q).1 x*evR Q x by grind];grind⟩
   have h2:=(h1.dg (by decide)).2;have h3:dgF [(1:Rat)]=1:=by decide
   have h4:∀x,evR Q x=co Q 0:=fun x=>ev_dg1 (by omega) x;refine .one (k:=co Q 0) (fun z=>?_) h4
   have:=dg_of_zero (p:=Q) fun x=>by rw [h4,z]
   omega
  ·obtain⟨k,k0,s1,s2,k1⟩:=small_ev (p:=scaleF (divF p q).2 (-1)) (by omega)
   obtain⟨r,hr⟩:∃r,smallF (scaleF (divF p q).2 (-1))=r:=⟨_,rfl⟩;have dr3:dgF r=dgF (divF p q).2:=by rw [←hr,dgSm,dr2]
   rw [hr] at s1 s2 ⊢;have eS:∀x,evR (scaleF R (-k)) x=evR R x*(-k):=fun x=>ev_scaleF _ _ x;have e3:∀x,evR r x=evR D x*evR (scaleF R (-k)) x:=fun x=>by rw [s1,e1,er,eS];grind
   have rel:∀x,evR P x=evR (divF p q).1 x*evR Q x - 1 / k*evR (scaleF R (-k)) x:=fun x=>by
    have f1:=inv_ne (show k≠0 by grind);rw [eS];have f2:=eR x;generalize 1 / k=w at *;have f3:w*(evR R x*-k) = -(evR R x*(k*w)):=by grind
    rw [f3,f1];grind
   have hc2:Cop Q (scaleF R (-k)):=by
    have g1:Cop Q R:=hc.symm.add (c:=scaleF (divF p q).1 (-1)) fun x=>by rw [ev_scaleF,eR];grind
    exact g1.scale (c:=1) (d:=-k) (by decide) (by grind) (fun x=>by grind) eS
   obtain⟨l,i1,i2⟩:=chn_gen n q r D Q (scaleF R (-k)) hq (by omega) (by omega) hD eQ e3 hc2;exact⟨_,.more hc k1 rel i1,.cons eP i2⟩
end Go.Proofs.YtaaoleakkaloeaaGreatDoor
