/- The sign of a polynomial at a root of another one. Printed by gen_zb.py. -/
import Derived.Test.YtjamgccgoapbeaaGreatDoorGYn
import Derived.Test.YtjamgccgoapbeaaGreatDoorGZa
set_option linter.unusedVariables false
set_option maxRecDepth 100000
set_option maxHeartbeats 64000000
namespace Go.Proofs.YtjamgccgoapbeaaGreatDoor
open Go Go.RowKit
set_option linter.unusedSimpArgs false
def tarskiF (p q:List Rat) (lo hi:Rat):Int:=betweenF (chainF (simpleF p) (mulF (derivF (simpleF p)) q)) lo hi
def signE (p:List Rat) (x y:Rat) (q:List Rat):Int × Int:=
 if bigF q then (0,3) else if askF p≠0 then (0,askF p) else if insideF p x y≠1 then (0,7) else
 match [x,y].find? (fun c=>decide ((evR p c).num.sign=0)) with
 | some c=>((evR q c).num.sign,0)
 | none=>(tarskiF p q (aq x y) (ar x y),0)
def signOk (M:Nat) (p q:List Rat):Bool:=simpleOk M p && smB M (simpleF p) && smB M (derivF (simpleF p)) && chainOk M (simpleF p) (mulF (derivF (simpleF p)) q) && cB M (chainF (simpleF p) (mulF (derivF (simpleF p)) q))
theorem find_none2 {f:Rat→Bool} {x y:Rat} (h:∀c ∈ [x,y],f c=false):[x,y].find? f=none:=by
 rw [List.find?_eq_none];intro c hc;rw [h c hc];exact Bool.false_ne_true
theorem find_at {f:Rat→Bool} {l:List Rat} {j:Nat} {c:Rat} (h:∀d ∈ l.take j,f d=false) (hc:l[j]?=some c) (hf:f c=true):l.find? f=some c:=by
 induction l generalizing j with
 | nil=>simp at hc
 | cons a r ih=>
  cases j with
  | zero=>obtain rfl:=Option.some.inj hc;rw [List.find?_cons,hf]
  | succ j=>
   rw [List.find?_cons,h a (by simp)];exact ih (j:=j) (fun d hd=>h d (by simp [hd])) (by simpa using hc)
theorem sign_at_p (M:Nat) (hM0:0<M) (hM:M≤268435456) (v vs vq:Value) (p q:List Rat) (x y:Rat) (hlp:p.length≤1000) (hlq:q.length≤1000) (w:World) (hp:Pl w v p) (hs:Sp w vs x y) (hq:Pl w vq q) (bx:Bq M x) (by_:Bq M y) (hbp:∀c ∈ p,Bq M c) (hbq:∀c ∈ q,Bq M c) (hok:askF p=0→bigF q=false→ownOk M p=true) (hok2:askF p=0→bigF q=false→insideF p x y=1→signOk M p q=true) (D:Int × Int) (hD:signE p x y q=D):Calls Tryz.prog 15 #[v,vs,vq] w fun e w'=>e=.returned (.tuple #[.int .i64 D.1,.int .i64 D.2])∧Ext w w':=by
 obtain⟨s1,A1,k1,ca1,B1,l1,cb1,s2,A2,k2,ca2,B2,l2,cb2,rfl,hxx,hyy⟩:=hs.form;obtain⟨A,n,c,rfl,-⟩:=hp.form;obtain⟨AQ,nq,cq,rfl,-⟩:=hq.form;obtain⟨b,hb⟩:∃b,bigF q=b:=⟨_,rfl⟩;obtain⟨z,hz⟩:∃z,askF p=z:=⟨_,rfl⟩;have HB0:=ZZ hb;have HB:=ZZ (show [q].any bigF=b by rw [←hb];simp);have HZ:=ZZ hz;have HLP:=ZZ hlp;have HLQ:=ZZ hlq;have HM0:=ZZ hM0;have HM:=ZZ hM;have BX:=ZZ bx;have BY:=ZZ by_;have HBP:=ZZ hbp;have HBQ:=ZZ hbq;have HOK:=ZZ hok;have HOK2:=ZZ hok2;have HD:=ZZ hD;have x1:=ab w (.cells #[.bool s1,.slice A1 k1 ca1,.slice B1 l1 cb1,.bool s2,.slice A2 k2 ca2,.slice B2 l2 cb2] 37);have E1:=ZZ x1;have HP:=ZZ (hp.mono x1);have HQ0:=ZZ (hq.mono x1);have HSP:=ZZ (hs.mono x1);have HXX:=ZZ (hxx.mono x1);have HYY:=ZZ (hyy.mono x1);have R1:=ZZ (heap_alloc_new w (.cells #[.bool s1,.slice A1 k1 ca1,.slice B1 l1 cb1,.bool s2,.slice A2 k2 ca2,.slice B2 l2 cb2] 37));have hun:undef=.tuple #[]:=rfl;clear hb hz hlp hlq hM0 hM bx by_ hok hok2 x1 hp hq hs hbp hbq hD hxx hyy
 go_enter Tryz.func15,Tryz.ntmps15
 go_upto_region 1 with (fail)
 generalize w.alloc (.cells #[.bool s1,.slice A1 k1 ca1,.slice B1 l1 cb1,.bool s2,.slice A2 k2 ca2,.slice B2 l2 cb2] _)=W1 at *;obtain⟨gx,hgx⟩:∃g,w.heap.size=g:=⟨_,rfl⟩;rw [hgx] at R1;rw [hgx];clear hgx;go_wp2_with fail;refine(asked_p _ p (by have:=HLP.out;omega) _ HP.out z HZ.out).mono ?_;rintro e w2 ⟨rfl,kk2⟩;have K2:=ZZ kk2;clear kk2;have HL1:=ZZ (pll_one (HQ0.out.mono K2.out));go_wp2_with fail;refine(long_p _ [q] (by simp) (fun l hl=>by rw [List.mem_singleton.1 hl];have:=HLQ.out;omega) _ HL1.out b HB.out).mono ?_;rintro e w3 ⟨rfl,kk3⟩;have K3:=ZZ (ak K2.out (ak (ab _ _) kk3));clear kk3 HL1 K2
 cases b with
 | true=>
  have HDE:=ZZ (show D=(0,3) from by rw [←HD.out];unfold signE;rw [HB0.out];rfl);go_wp2_with fail;refine bodyPost_ret (v:=.tuple #[.int .i64 0,.int .i64 3]) (by simp [results,Tryz.f15]) rfl ?_;rw [HDE.out];exact⟨rfl,ak E1.out K3.out⟩
 | false=>
  by_cases h0:z=0
  ·subst h0
   obtain⟨zi,hzi⟩:∃z,insideF p x y=z:=⟨_,rfl⟩;have HZI:=ZZ hzi;have hin:=ZZ (inside_p M HM0.out HM.out _ _ p x y HLP.out _ (HP.out.mono K3.out) (HSP.out.mono K3.out) BX.out BY.out HBP.out (HOK.out HZ.out HB0.out));rw [hzi] at hin;clear hzi;obtain⟨p0,p1,p2,p3,p4,p5,-⟩:=ai ((K3.out.block _ (lt_of_block R1.out)).trans R1.out);go_wp2_with fail;refine hin.out.mono ?_;rintro e w5 ⟨rfl,kk5⟩;have K5:=ZZ (ak K3.out kk5);clear kk5 hin p0 p1 p2 p3 p4 p5
   by_cases h1:zi=1
   ·subst h1
    have z1:decide ((1:Int)=1)=true:=rfl;have z2:((1:Int) != 1)=false:=rfl;obtain⟨p0,p1,p2,p3,p4,p5,-⟩:=ai ((K5.out.block _ (lt_of_block R1.out)).trans R1.out)
    go_upto_region 8 with (fail)
    have PT:=ZZ (pl_two (HXX.out.mono K5.out) (HYY.out.mono K5.out));have ET:=ZZ (ab w5 (.cells #[.bool s1,.slice A1 k1 ca1,.slice B1 l1 cb1,.bool s2,.slice A2 k2 ca2,.slice B2 l2 cb2] 35))
    go_upto_block 1 with (fail)
    generalize w5.alloc (.cells #[.bool s1,.slice A1 k1 ca1,.slice B1 l1 cb1,.bool s2,.slice A2 k2 ca2,.slice B2 l2 cb2] _)=W2 at *;obtain⟨gs,hgs⟩:∃g,w5.heap.size=g:=⟨_,rfl⟩;rw [hgs] at PT;rw [hgs];clear hgs
    have HT:=ZZ (show ∀(i:Nat) (c:Rat),[x,y][i]?=some c→Tri W2 gs (i*3) c from by
     obtain⟨A9,c9,e9,-,h9⟩:=PT.out
     injection e9 with e1 e2 e3
     subst e1
     rcases h9 with ⟨h9,-⟩|⟨b9,o9,h9,ht⟩
     ·cases h9
     ·injection h9 with h9
      injection h9 with hb9 ho9
      subst hb9;subst ho9;intro i c hc
      have:=ht i c hc
      rwa [Nat.zero_add] at this)
    have E2:=ZZ (ak K5.out ET.out);clear PT ET K3 K5 p0 p1 p2 p3 p4 p5
    go_loopg [35] 2 (fun k i wr=>∃j,Hid (j+k=2)∧i=.int .i64 (j:Int)∧Hid (∀d ∈ [x,y].take j,decide ((evR p d).num.sign=0)=false)∧Hid (Ext W2 wr))
    case atStart=>exact⟨0,ZZ rfl,rfl,ZZ (by intro d hd;simp at hd),ZZ (ae _)⟩
    case round=>
     obtain⟨j,HJ,rfl,HN,HE⟩:=hrel;rename World=>WR
     rcases Nat.eq_zero_or_pos gk with hz|hz
     ·subst hz
      obtain rfl:j=2:=HJ.out;have q1:decide (((2:Nat):Int)<2)=false:=rfl;have EW:=ZZ (ak E2.out HE.out);have HSO:=HOK2.out HZ.out HB0.out HZI.out;unfold signOk at HSO
      simp only [Bool.and_eq_true] at HSO
      obtain⟨⟨⟨⟨o1,o2⟩,o3⟩,o4⟩,o5⟩:=HSO;have SIM:=ZZ o1;have SM1:=ZZ (sm_of o2);have SM2:=ZZ (sm_of o3);have CHO:=ZZ o4;have CB:=ZZ o5;have LS:=ZZ (show (simpleF p).length≤1001 from Nat.le_trans (simple_len p) (by have:=HLP.out;omega));have LD:=ZZ (show (derivF (simpleF p)).length≤1001 from Nat.le_trans (deriv_len _) LS.out);have LM:=ZZ (show (mulF (derivF (simpleF p)) q).length≤2001 from Nat.le_trans (mulF_len _ _) (by have h1:=LD.out;have h2:=HLQ.out;omega));have LC:=ZZ (show (chainF (simpleF p) (mulF (derivF (simpleF p)) q)).length≤1000000 from Nat.le_trans (chain_len _ _) (by have h1:=LS.out;have h2:=LM.out;omega))
      have HDE:=ZZ (show D=(tarskiF p q (aq x y) (ar x y),0) from by
       rw [←HD.out];unfold signE;rw [HB0.out,HZ.out,HZI.out,if_neg (by decide),if_neg (by decide),if_neg (by decide),find_none2 (fun c hc=>HN.out c hc)])
      clear o1 o2 o3 o4 o5 HT HN HXX HYY;obtain⟨p0,p1,p2,p3,p4,p5,-⟩:=ai ((EW.out.block _ (lt_of_block R1.out)).trans R1.out);go_wp2_with fail;refine(sorted_p M (by have:=HM.out;omega) _ x y _ (HSP.out.mono EW.out) BX.out BY.out).mono ?_;rintro e w7 ⟨v5,v6,rfl,h5,h6,kk7⟩;obtain⟨s5,A5,k5,ca5,B5,l5,cb5,rfl⟩:=h5.form2;obtain⟨s6,A6,k6,ca6,B6,l6,cb6,rfl⟩:=h6.form2;have H5:=ZZ h5;have H6:=ZZ h6;have K7:=ZZ kk7;clear h5 h6 kk7 p0 p1 p2 p3 p4 p5
      go_upto_region 15 with (fail)
      have y1:=ab w7 (.cells #[.bool s5,.slice A5 k5 ca5,.slice B5 l5 cb5] 35);have y2:=ab (w7.alloc (.cells #[.bool s5,.slice A5 k5 ca5,.slice B5 l5 cb5] 35)) (.cells #[.bool s6,.slice A6 k6 ca6,.slice B6 l6 cb6] 35);have r1:=(y2.block _ (lt_of_block (heap_alloc_new w7 (.cells #[.bool s5,.slice A5 k5 ca5,.slice B5 l5 cb5] 35)))).trans (heap_alloc_new w7 (.cells #[.bool s5,.slice A5 k5 ca5,.slice B5 l5 cb5] 35));have r2:=heap_alloc_new (w7.alloc (.cells #[.bool s5,.slice A5 k5 ca5,.slice B5 l5 cb5] 35)) (.cells #[.bool s6,.slice A6 k6 ca6,.slice B6 l6 cb6] 35);rw [World.size_alloc] at r2;have E8:=ZZ (ak EW.out (ak K7.out (ak y1 y2)));have N1:=ZZ (H5.out.mono (ak y1 y2));have N2:=ZZ (H6.out.mono (ak y1 y2));have RA:=ZZ r1;have RB:=ZZ r2;clear y1 y2 r1 r2 H5 H6 K7;generalize (w7.alloc (.cells #[.bool s5,.slice A5 k5 ca5,.slice B5 l5 cb5] _)).alloc (.cells #[.bool s6,.slice A6 k6 ca6,.slice B6 l6 cb6] _)=W8 at *;obtain⟨ga,hga⟩:∃g,w7.heap.size=g:=⟨_,rfl⟩;obtain⟨gb,hgb⟩:∃g,w7.heap.size+1=g:=⟨_,rfl⟩;rw [hga] at RA;rw [hgb] at RB;rw [hgb,hga];clear hga hgb;go_wp2_with fail;refine(simple_p M HM0.out HM.out _ p (by have:=HLP.out;omega) _ (HP.out.mono E8.out) SIM.out).mono ?_;rintro e W4 ⟨vS,rfl,hS,kkS⟩;obtain⟨AS,nS,cS,rfl,-⟩:=hS.form;have HPS:=ZZ hS;have N5:=ZZ (N1.out.mono kkS);have N6:=ZZ (N2.out.mono kkS);have HQ:=ZZ (HQ0.out.mono (ak E8.out kkS));have E9:=ZZ (ak E8.out kkS)
      have HC:=ZZ (show ∀W,Ext W4 W→W.cell? ⟨ga,0,none⟩=some (.bool s5)∧W.cell? ⟨ga,1,none⟩=some (.slice A5 k5 ca5)∧W.cell? ⟨ga,2,none⟩=some (.slice B5 l5 cb5)∧W.cell? ⟨gb,0,none⟩=some (.bool s6)∧W.cell? ⟨gb,1,none⟩=some (.slice A6 k6 ca6)∧W.cell? ⟨gb,2,none⟩=some (.slice B6 l6 cb6) from fun W k=>by
       obtain⟨y0,y1,y2,-⟩:=aj (((ak kkS k).block _ (lt_of_block RA.out)).trans RA.out);obtain⟨u0,u1,u2,-⟩:=aj (((ak kkS k).block _ (lt_of_block RB.out)).trans RB.out);exact⟨y0,y1,y2,u0,u1,u2⟩)
      clear hS kkS N1 N2
      go_upto_region 16 with (fail)
      refine wp_region_noPanic ?_;refine wp_region_held_drew (S:=fun W=>W.cell? ⟨ga,0,none⟩=some (.bool s5)∧W.cell? ⟨ga,1,none⟩=some (.slice A5 k5 ca5)∧W.cell? ⟨ga,2,none⟩=some (.slice B5 l5 cb5)∧W.cell? ⟨gb,0,none⟩=some (.bool s6)∧W.cell? ⟨gb,1,none⟩=some (.slice A6 k6 ca6)∧W.cell? ⟨gb,2,none⟩=some (.slice B6 l6 cb6)) (by kernel_rfl) (HC.out _ (ac _)) (fun hHeld=>?_);refine take_p (i:=0) 56 (v:=?vv0) rfl rfl (by kernel_rfl) (by kernel_rfl) (by kernel_rfl) (fun _ _ _ h=>h) (Or.inl ⟨rfl,?hy0⟩) (by assumption) ?rr0
      case hy0=>(intro w hSw;(try dsimp only at hSw);go_simp;try with_reducible rfl)
      try simp only [Act.put,lyA,lyB,lyC]
      refine take_p (i:=1) 57 (v:=?vv1) rfl rfl (by kernel_rfl) (by kernel_rfl) (by kernel_rfl) (fun _ _ _ h=>h) (Or.inl ⟨rfl,?hy1⟩) (by assumption) ?rr1
      case hy1=>(intro w hSw;(try dsimp only at hSw);go_simp;try with_reducible rfl)
      try simp only [Act.put,lyA,lyB,lyC]
      refine take_p (i:=3) 59 (v:=?vv3) rfl rfl (by kernel_rfl) (by kernel_rfl) (by kernel_rfl) (fun _ _ _ h=>h) (Or.inl ⟨rfl,?hy3⟩) (by assumption) ?rr3
      case hy3=>(intro w hSw;(try dsimp only at hSw);go_simp;try with_reducible rfl)
      try simp only [Act.put,lyA,lyB,lyC]
      refine take_p (i:=6) 62 (v:=?vv6) rfl rfl (by kernel_rfl) (by kernel_rfl) (by kernel_rfl) (fun _ _ _ h=>h) (Or.inl ⟨rfl,?hy6⟩) (by assumption) ?rr6
      case hy6=>(intro w hSw;(try dsimp only at hSw);go_simp;try with_reducible rfl)
      try simp only [Act.put,lyA,lyB,lyC]
      refine take_p (i:=7) 63 (v:=?vv7) rfl rfl (by kernel_rfl) (by kernel_rfl) (by kernel_rfl) (fun _ _ _ h=>h) (Or.inl ⟨rfl,?hy7⟩) (by assumption) ?rr7
      case hy7=>(intro w hSw;(try dsimp only at hSw);go_simp;try with_reducible rfl)
      try simp only [Act.put,lyA,lyB,lyC]
      refine call_p (i:=2) (some 58) rfl rfl (by kernel_rfl) (fun K hK=>?_)
      go_simp
      go_at_call 36
      refine(deriv_p M HM0.out (by have:=HM.out;omega) _ (simpleF p) (by have:=LS.out;omega) _ (HPS.out.mono (ac _)) SM1.out).mono ?_;rintro e x2 ⟨u2,rfl,h2,kk2⟩;have D2:=ZZ h2.pl;have hx2:=ZZ (show Ext W4 x2 from ak (ac _) kk2);clear h2 kk2
      try go_wp2_with fail
      refine hK.out _ _ (HC.out _ hx2.out) (fun hHeld=>?_);clear hK K
      try simp only [Act.put,lyA,lyB,lyC]
      refine call_p (i:=4) (some 60) rfl rfl (by kernel_rfl) (fun K hK=>?_)
      go_simp
      go_at_call 32
      refine(mul_p M HM0.out _ _ (derivF (simpleF p)) q (by have:=LD.out;omega) (by have:=HLQ.out;omega) (by have h1:=LD.out;have h2:=HM.out;have h3:(derivF (simpleF p)).length*(M+M+1)≤1001*536870913:=Nat.mul_le_mul (by omega) (by omega);omega) _ D2.out (HQ.out.mono hx2.out) SM2.out HBQ.out).mono ?_;rintro e x4 ⟨u4,rfl,h4,kk4⟩;have D4:=ZZ h4.pl;have hx4:=ZZ (ak hx2.out kk4);clear h4 kk4 D2
      try go_wp2_with fail
      refine hK.out _ _ (HC.out _ hx4.out) (fun hHeld=>?_);clear hK K
      try simp only [Act.put,lyA,lyB,lyC]
      refine call_p (i:=5) (some 61) rfl rfl (by kernel_rfl) (fun K hK=>?_)
      go_simp
      go_at_call 72
      refine(chain_p M HM0.out HM.out _ _ (simpleF p) (mulF (derivF (simpleF p)) q) (by have:=LS.out;omega) (by have:=LM.out;omega) _ (HPS.out.mono hx4.out) D4.out CHO.out).mono ?_;rintro e x5 ⟨u5,rfl,h5,kk5⟩;have D5:=ZZ h5;have hx5:=ZZ (ak hx4.out kk5);clear h5 kk5 D4
      try go_wp2_with fail
      refine hK.out _ _ (HC.out _ hx5.out) (fun hHeld=>?_);clear hK K
      try simp only [Act.put,lyA,lyB,lyC]
      refine call_p (i:=8) (some 64) rfl rfl (by kernel_rfl) (fun K hK=>?_)
      go_simp
      go_at_call 65
      refine(between_p M HM0.out HM.out _ _ _ (chainF (simpleF p) (mulF (derivF (simpleF p)) q)) (aq x y) (ar x y) LC.out CB.out _ D5.out (N5.out.mono hx5.out) (N6.out.mono hx5.out) (bq_minQ BX.out BY.out) (bq_maxQ BX.out BY.out)).mono ?_;rintro e x8 ⟨rfl,kk8⟩;have hx8:=ZZ (ak hx5.out kk8);clear kk8 D5
      try go_wp2_with fail
      refine hK.out _ _ (HC.out _ hx8.out) (fun hHeld=>?_);clear hK K
      try simp only [Act.put,lyA,lyB,lyC]
      refine take_p (i:=9) 6 (v:=?vv9) rfl rfl (by kernel_rfl) (by kernel_rfl) (by kernel_rfl) (fun _ _ _ h=>h) (Or.inl ⟨rfl,?hy9⟩) (by assumption) ?rr9
      case hy9=>(intro w hSw;(try dsimp only at hSw);go_simp;try with_reducible rfl)
      try simp only [Act.put,lyA,lyB,lyC]
      refine take_p (i:=10) 7 (v:=?vv10) rfl rfl (by kernel_rfl) (by kernel_rfl) (by kernel_rfl) (fun _ _ _ h=>h) (Or.inl ⟨rfl,?hy10⟩) (by assumption) ?rr10
      case hy10=>(intro w hSw;(try dsimp only at hSw);go_simp;try with_reducible rfl)
      try simp only [Act.put,lyA,lyB,lyC]
      refine wpAnyH_done (by kernel_rfl) ?_ _;refine NoPanic.normal ?_;rw [show betweenF (chainF (simpleF p) (mulF (derivF (simpleF p)) q)) (aq x y) (ar x y)=tarskiF p q (aq x y) (ar x y) from rfl];obtain⟨zt,hzt⟩:∃z,tarskiF p q (aq x y) (ar x y)=z:=⟨_,rfl⟩;rw [hzt] at HDE;rw [hzt];clear hzt;go_wp2_with fail;refine bodyPost_ret (v:=.tuple #[.int .i64 zt,.int .i64 0]) (by simp [results,Tryz.f15]) rfl ?_;rw [HDE.out];exact⟨rfl,ak E1.out (ak E9.out hx8.out)⟩
     ·have hj2:j<2:=by have:=HJ.out;omega
      have q1:decide ((j:Int)<2)=true:=decide_eq_true (by omega);have q4:(j:Int)<2:=by omega
      have q5:(0:Int)≤(j:Int):=by omega
      obtain⟨cc,hcc⟩:∃c,[x,y][j]?=some c:=⟨[x,y][j]'(by simpa using hj2),List.getElem?_eq_getElem _⟩;obtain⟨s7,A7,k7,ca7,B7,l7,cb7,c0,c1,c2,hn7⟩:=(HT.out j cc hcc).mono HE.out;have HCC:=ZZ hcc
      have BC:=ZZ (show Bq M cc from by
       have h:=List.mem_of_getElem? hcc
       simp only [List.mem_cons,List.mem_nil_iff,or_false] at h
       rcases h with rfl|rfl
       exact BX.out;exact BY.out)
      have HZK:=ZZ hz;have HJ2:=ZZ hj2;have RN:=ZZ (heap_alloc_new WR (.cells #[.bool s7,.slice A7 k7 ca7,.slice B7 l7 cb7] 35));have EN:=ZZ (ab WR (.cells #[.bool s7,.slice A7 k7 ca7,.slice B7 l7 cb7] 35));have HN7:=ZZ (hn7.mono EN.out);clear hcc hz hj2 hn7
      go_upto_region 11 with (fail)
      generalize WR.alloc (.cells #[.bool s7,.slice A7 k7 ca7,.slice B7 l7 cb7] _)=WA at *;obtain⟨gn,hgn⟩:∃g,WR.heap.size=g:=⟨_,rfl⟩;rw [hgn] at RN;rw [hgn];clear hgn c0 c1 c2;obtain⟨p0,p1,p2,-⟩:=aj RN.out;have EWA:=ZZ (ak E2.out (ak HE.out EN.out));have hev:=ZZ (eval_p M HM0.out _ _ p cc (by have:=HLP.out;omega) (k_of HM.out HLP.out) _ (HP.out.mono EWA.out) HN7.out HBP.out BC.out);go_wp2_with fail;refine hev.out.mono ?_;rintro e w7 ⟨u7,rfl,h7,kk7⟩;have H7:=ZZ h7;have K7:=ZZ kk7;clear h7 kk7 hev p0 p1 p2;obtain⟨sg,hsg⟩:∃z,(evR p cc).num.sign=z:=⟨_,rfl⟩;have HSG:=ZZ hsg;clear hsg;go_wp2_with fail;refine(sign_q' _ (evR p cc) _ sg HSG.out H7.out).mono ?_;rintro e w8 ⟨rfl,kk8⟩;have K8:=ZZ (ak K7.out kk8);clear kk8 K7 H7
      by_cases h0:sg=0
      ·subst h0
       have z0:((0:Int) == 0)=true:=rfl;obtain⟨sq,hsq⟩:∃z,(evR q cc).num.sign=z:=⟨_,rfl⟩;have HSQ:=ZZ hsq
       have HDE:=ZZ (show D=(sq,0) from by
        rw [←HD.out];unfold signE;rw [HB0.out,HZ.out,HZI.out,if_neg (by decide),if_neg (by decide),if_neg (by decide),find_at (fun c hc=>HN.out c hc) HCC.out (decide_eq_true HSG.out),←hsq])
       clear hsq;obtain⟨p0,p1,p2,-⟩:=aj ((K8.out.block _ (lt_of_block RN.out)).trans RN.out);have hev:=ZZ (eval_p M HM0.out _ _ q cc (by have:=HLQ.out;omega) (k_of HM.out HLQ.out) _ (HQ0.out.mono (ak EWA.out K8.out)) (HN7.out.mono K8.out) HBQ.out BC.out);go_wp2_with fail;refine hev.out.mono ?_;rintro e w9 ⟨u9,rfl,h9,kk9⟩;have H9:=ZZ h9;have K9:=ZZ (ak K8.out kk9);clear h9 kk9 hev p0 p1 p2;go_wp2_with fail;refine(sign_q' _ (evR q cc) _ sq HSQ.out H9.out).mono ?_;rintro e w10 ⟨rfl,kk10⟩;have K10:=ZZ (ak E1.out (ak EWA.out (ak K9.out kk10)));clear kk10;go_wp2_with fail;refine bodyPost_ret (v:=.tuple #[.int .i64 sq,.int .i64 0]) (by simp [results,Tryz.f15]) rfl ?_;rw [HDE.out];exact⟨rfl,K10.out⟩
      ·have z0:(sg == 0)=false:=beq_eq_false_iff_ne.2 h0
       have HS0:=ZZ (show decide ((evR p cc).num.sign=0)=false from decide_eq_false (by rw [HSG.out];exact h0));clear h0;go_wp2_with fail
       go_roundg (gk - 1)
       case measure=>have:=HZK.out;omega
       case rel=>
        refine⟨j+1,ZZ (by have:=HJ.out;have:=HZK.out;omega),rfl,ZZ ?_,ZZ (ak HE.out (ak EN.out K8.out))⟩;rw [List.take_add_one,HCC.out,Option.toList_some];intro d hd
        rcases List.mem_append.1 hd with hd|hd
        ·exact HN.out d hd
        ·rw [List.mem_singleton.1 hd];exact HS0.out
   ·have z1:decide (zi=1)=false:=decide_eq_false h1
    have z2:(zi != 1)=true:=bne_iff_ne.2 h1;have HDE:=ZZ (show D=(0,7) from by rw [←HD.out];unfold signE;rw [HB0.out,HZ.out,HZI.out,if_neg (by decide),if_neg (by decide),if_pos h1]);clear h1;go_wp2_with fail;refine bodyPost_ret (v:=.tuple #[.int .i64 0,.int .i64 7]) (by simp [results,Tryz.f15]) rfl ?_;rw [HDE.out];exact⟨rfl,ak E1.out K5.out⟩
  ·have z0:(z == 0)=false:=beq_eq_false_iff_ne.2 h0
   have z1:(z != 0)=true:=bne_iff_ne.2 h0;have z2:decide (z=0)=false:=decide_eq_false h0;have HDE:=ZZ (show D=(0,z) from by rw [←HD.out];unfold signE;rw [HB0.out,HZ.out,if_neg (by decide),if_pos h0]);clear h0;go_wp2_with fail;refine bodyPost_ret (v:=.tuple #[.int .i64 0,.int .i64 z]) (by simp [results,Tryz.f15]) rfl ?_;rw [HDE.out];exact⟨rfl,ak E1.out K3.out⟩
end Go.Proofs.YtjamgccgoapbeaaGreatDoor
