/- Roots in a span; the sign everywhere in a span; the sign at a root. Printed by gen_yl.py. -/
import Derived.Test.YtjamgccgoapbeaaGreatDoorGYk
set_option linter.unusedVariables false
set_option maxRecDepth 100000
set_option maxHeartbeats 64000000
namespace Go.Proofs.YtjamgccgoapbeaaGreatDoor
open Go Go.RowKit
set_option linter.unusedSimpArgs false
theorem bq_minQ {M:Nat} {x y:Rat} (h:Bq M x) (k:Bq M y):Bq M (aq x y):=by unfold aq;split <;> assumption
theorem bq_maxQ {M:Nat} {x y:Rat} (h:Bq M x) (k:Bq M y):Bq M (ar x y):=by unfold ar;split <;> assumption
def insideF (p:List Rat) (x y:Rat):Int:=betweenF (ownF p) (aq x y) (ar x y)+if (evR p (aq x y)).num.sign=0 then 1 else 0
theorem between_bound (p:List Rat) (lo hi:Rat):-(2*(p.length:Int)+4)≤betweenF (ownF p) lo hi∧betweenF (ownF p) lo hi≤2*(p.length:Int)+4:=by
 have h1:=flips_bound 0 ((ownF p).map (atF lo));have h2:=flips_bound 0 ((ownF p).map (atF hi));rw [List.length_map] at h1 h2;have h3:=own_len p;unfold betweenF flipsF;omega
theorem inside_p (M:Nat) (hM0:0<M) (hM:M≤268435456) (v vs:Value) (p:List Rat) (x y:Rat) (hlp:p.length≤1000) (w:World) (hp:Pl w v p) (hs:Sp w vs x y) (bx:Bq M x) (by_:Bq M y) (hbp:∀c ∈ p,Bq M c) (hok:ownOk M p=true):Calls Tryz.prog 69 #[v,vs] w fun e w'=>e=.returned (.int .i64 (insideF p x y))∧Ext w w':=by
 obtain⟨s1,A1,k1,ca1,B1,l1,cb1,s2,A2,k2,ca2,B2,l2,cb2,rfl,-,-⟩:=hs.form;have HLP:=ZZ hlp;have HOL:=ZZ (show (ownF p).length≤1000000 from Nat.le_trans (own_len p) (by omega));obtain⟨zb,hzb⟩:∃z,betweenF (ownF p) (aq x y) (ar x y)=z:=⟨_,rfl⟩;have hbb:=between_bound p (aq x y) (ar x y);rw [hzb] at hbb;obtain⟨sg,hsg⟩:∃z,(evR p (aq x y)).num.sign=z:=⟨_,rfl⟩;have HIF:=ZZ (show insideF p x y=zb+if sg=0 then 1 else 0 by unfold insideF;rw [hzb,hsg]);have q3:IntKind.i64.wrap (zb+1)=zb+1:=IntWalk.i64_in _ (by omega);have HBZ:=ZZ hzb;have HSG:=ZZ hsg;have HM0:=ZZ hM0;have HM:=ZZ hM;have BX:=ZZ bx;have BY:=ZZ by_;have HBP:=ZZ hbp;have HOW:=ZZ hok;have HCB:=ZZ (show cB M (ownF p)=true from by have h:=hok;unfold ownOk at h;rw [Bool.and_eq_true] at h;exact h.2);have x1:=ab w (.cells #[.bool s1,.slice A1 k1 ca1,.slice B1 l1 cb1,.bool s2,.slice A2 k2 ca2,.slice B2 l2 cb2] 37);have E1:=ZZ x1;have HP:=ZZ (hp.mono x1);have HSP:=ZZ (hs.mono x1);have R1:=ZZ (heap_alloc_new w (.cells #[.bool s1,.slice A1 k1 ca1,.slice B1 l1 cb1,.bool s2,.slice A2 k2 ca2,.slice B2 l2 cb2] 37));clear hlp hzb hsg hM0 hM bx by_ hok x1 hp hs hbb hbp
 go_enter Tryz.func69,Tryz.ntmps69
 go_upto_region 1 with (fail)
 generalize w.alloc (.cells #[.bool s1,.slice A1 k1 ca1,.slice B1 l1 cb1,.bool s2,.slice A2 k2 ca2,.slice B2 l2 cb2] _)=W1 at *;obtain⟨gx,hgx⟩:∃g,w.heap.size=g:=⟨_,rfl⟩;rw [hgx] at R1;rw [hgx];clear hgx;obtain⟨p0,p1,p2,p3,p4,p5,-⟩:=ai R1.out;go_wp2_with fail;refine(sorted_p M (by have:=HM.out;omega) _ x y _ HSP.out BX.out BY.out).mono ?_;rintro e w3 ⟨v5,v6,rfl,h5,h6,kk3⟩;obtain⟨s5,A5,k5,ca5,B5,l5,cb5,rfl⟩:=h5.form2;obtain⟨s6,A6,k6,ca6,B6,l6,cb6,rfl⟩:=h6.form2;have H5:=ZZ h5;have H6:=ZZ h6;have K3:=ZZ kk3;clear h5 h6 kk3 p0 p1 p2 p3 p4 p5
 go_upto_region 2 with (fail)
 have y1:=ab w3 (.cells #[.bool s5,.slice A5 k5 ca5,.slice B5 l5 cb5] 35);have y2:=ab (w3.alloc (.cells #[.bool s5,.slice A5 k5 ca5,.slice B5 l5 cb5] 35)) (.cells #[.bool s6,.slice A6 k6 ca6,.slice B6 l6 cb6] 35);have r1:=(y2.block _ (lt_of_block (heap_alloc_new w3 (.cells #[.bool s5,.slice A5 k5 ca5,.slice B5 l5 cb5] 35)))).trans (heap_alloc_new w3 (.cells #[.bool s5,.slice A5 k5 ca5,.slice B5 l5 cb5] 35));have r2:=heap_alloc_new (w3.alloc (.cells #[.bool s5,.slice A5 k5 ca5,.slice B5 l5 cb5] 35)) (.cells #[.bool s6,.slice A6 k6 ca6,.slice B6 l6 cb6] 35);rw [World.size_alloc] at r2;have E4:=ZZ (ak K3.out (ak y1 y2));have N1:=ZZ (H5.out.mono (ak y1 y2));have N2:=ZZ (H6.out.mono (ak y1 y2));have HPL:=ZZ (HP.out.mono E4.out);have RA:=ZZ r1;have RB:=ZZ r2;clear y1 y2 r1 r2;generalize (w3.alloc (.cells #[.bool s5,.slice A5 k5 ca5,.slice B5 l5 cb5] _)).alloc (.cells #[.bool s6,.slice A6 k6 ca6,.slice B6 l6 cb6] _)=W4 at *;obtain⟨ga,hga⟩:∃g,w3.heap.size=g:=⟨_,rfl⟩;obtain⟨gb,hgb⟩:∃g,w3.heap.size+1=g:=⟨_,rfl⟩;rw [hga] at RA;rw [hgb] at RB;rw [hgb,hga]
 have HC:=ZZ (show ∀W,Ext W4 W→W.cell? ⟨ga,0,none⟩=some (.bool s5)∧W.cell? ⟨ga,1,none⟩=some (.slice A5 k5 ca5)∧W.cell? ⟨ga,2,none⟩=some (.slice B5 l5 cb5)∧W.cell? ⟨gb,0,none⟩=some (.bool s6)∧W.cell? ⟨gb,1,none⟩=some (.slice A6 k6 ca6)∧W.cell? ⟨gb,2,none⟩=some (.slice B6 l6 cb6) from fun W k=>by
  obtain⟨y0,y1,y2,-⟩:=aj ((k.block _ (lt_of_block RA.out)).trans RA.out);obtain⟨u0,u1,u2,-⟩:=aj ((k.block _ (lt_of_block RB.out)).trans RB.out);exact⟨y0,y1,y2,u0,u1,u2⟩)
 clear hga hgb;have hun:undef=.tuple #[]:=rfl;refine wp_region_noPanic ?_;refine wp_region_held_drew (S:=fun W=>W.cell? ⟨ga,0,none⟩=some (.bool s5)∧W.cell? ⟨ga,1,none⟩=some (.slice A5 k5 ca5)∧W.cell? ⟨ga,2,none⟩=some (.slice B5 l5 cb5)∧W.cell? ⟨gb,0,none⟩=some (.bool s6)∧W.cell? ⟨gb,1,none⟩=some (.slice A6 k6 ca6)∧W.cell? ⟨gb,2,none⟩=some (.slice B6 l6 cb6)) (by kernel_rfl) (HC.out _ (ac _)) (fun hHeld=>?_);refine take_p (i:=0) 13 (v:=?vv0) rfl rfl (by kernel_rfl) (by kernel_rfl) (by kernel_rfl) (fun _ _ _ h=>h) (Or.inl ⟨rfl,?hy0⟩) (by assumption) ?rr0
 case hy0=>(intro w hSw;(try dsimp only at hSw);go_simp;try with_reducible rfl)
 try simp only [Act.put,lyA,lyB,lyC]
 refine take_p (i:=2) 15 (v:=?vv2) rfl rfl (by kernel_rfl) (by kernel_rfl) (by kernel_rfl) (fun _ _ _ h=>h) (Or.inl ⟨rfl,?hy2⟩) (by assumption) ?rr2
 case hy2=>(intro w hSw;(try dsimp only at hSw);go_simp;try with_reducible rfl)
 try simp only [Act.put,lyA,lyB,lyC]
 refine take_p (i:=3) 16 (v:=?vv3) rfl rfl (by kernel_rfl) (by kernel_rfl) (by kernel_rfl) (fun _ _ _ h=>h) (Or.inl ⟨rfl,?hy3⟩) (by assumption) ?rr3
 case hy3=>(intro w hSw;(try dsimp only at hSw);go_simp;try with_reducible rfl)
 try simp only [Act.put,lyA,lyB,lyC]
 refine call_p (i:=1) (some 14) rfl rfl (by kernel_rfl) (fun K hK=>?_)
 go_simp
 go_at_call 63
 refine(own_p M HM0.out HM.out _ p (by have:=HLP.out;omega) _ (HPL.out.mono (ac _)) HOW.out).mono ?_;rintro e x5 ⟨u5,rfl,h9,kk9⟩;obtain⟨A9,cap9,e9,-⟩:=id h9;obtain⟨n9,hn9⟩:∃n,(ownF p).length=n:=⟨_,rfl⟩;rw [hn9] at e9;subst e9;have H9:=ZZ h9;have HN9:=ZZ hn9;have hx1:=ZZ (show Ext W4 x5 from ak (ac _) kk9);clear h9 kk9 hn9
 try go_wp2_with fail
 refine hK.out _ _ (HC.out _ hx1.out) (fun hHeld=>?_);clear hK K
 try simp only [Act.put,lyA,lyB,lyC]
 refine call_p (i:=4) (some 17) rfl rfl (by kernel_rfl) (fun K hK=>?_)
 go_simp
 go_at_call 65
 refine(between_p M HM0.out HM.out _ _ _ (ownF p) (aq x y) (ar x y) HOL.out HCB.out _ H9.out (N1.out.mono hx1.out) (N2.out.mono hx1.out) (bq_minQ BX.out BY.out) (bq_maxQ BX.out BY.out)).mono ?_;rintro e x6 ⟨rfl,kk6⟩;rw [HBZ.out];have hx2:=ZZ (ak hx1.out kk6);clear kk6
 try go_wp2_with fail
 refine hK.out _ _ (HC.out _ hx2.out) (fun hHeld=>?_);clear hK K
 try simp only [Act.put,lyA,lyB,lyC]
 refine take_p (i:=5) 7 (v:=?vv5) rfl rfl (by kernel_rfl) (by kernel_rfl) (by kernel_rfl) (fun _ _ _ h=>h) (Or.inl ⟨rfl,?hy5⟩) (by assumption) ?rr5
 case hy5=>(intro w hSw;(try dsimp only at hSw);go_simp;try with_reducible rfl)
 try simp only [Act.put,lyA,lyB,lyC]
 refine wpAnyH_done (by kernel_rfl) ?_ _;refine NoPanic.normal ?_;obtain⟨p0,p1,p2,-⟩:=HC.out _ hx2.out;have hev:=ZZ (eval_p M HM0.out _ _ p (aq x y) (by have:=HLP.out;omega) (k_of HM.out HLP.out) _ (HPL.out.mono hx2.out) (N1.out.mono hx2.out) HBP.out (bq_minQ BX.out BY.out));go_wp2_with fail;refine hev.out.mono ?_;rintro e x7 ⟨u7,rfl,h7,kk7⟩;have H7:=ZZ h7;have K7:=ZZ kk7;clear h7 kk7 hev p0 p1 p2;go_wp2_with fail;refine(sign_q' _ (evR p (aq x y)) _ sg HSG.out H7.out).mono ?_;rintro e x8 ⟨rfl,kk8⟩;have K8:=ZZ (ak E1.out (ak E4.out (ak hx2.out (ak K7.out kk8))));clear kk8
 by_cases h0:sg=0
 ·subst h0
  have z0:((0:Int) == 0)=true:=rfl;go_wp2_with fail;go_ret;exact⟨show Ending.returned (.int .i64 (zb+1))=Ending.returned (.int .i64 (insideF p x y)) by rw [HIF.out];simp,K8.out⟩
 ·have z0:(sg == 0)=false:=beq_eq_false_iff_ne.2 h0
  have HZ0:=ZZ h0;clear h0;go_wp2_with fail;go_ret;exact⟨show Ending.returned (.int .i64 zb)=Ending.returned (.int .i64 (insideF p x y)) by rw [HIF.out,if_neg HZ0.out,Int.add_zero],K8.out⟩
def positiveE (p:List Rat) (x y:Rat):Int × Int:=if bigF p then (0,3) else if trimF p=[] then (0,0) else if 0<insideF p x y then (0,0) else ((evR p x).num.sign,0)
theorem positive_p (M:Nat) (hM0:0<M) (hM:M≤268435456) (v vs:Value) (p:List Rat) (x y:Rat) (hlp:p.length≤1000) (w:World) (hp:Pl w v p) (hs:Sp w vs x y) (bx:Bq M x) (by_:Bq M y) (hbp:∀c ∈ p,Bq M c) (hok:bigF p=false→trimF p≠[]→ownOk M p=true) (D:Int × Int) (hD:positiveE p x y=D):Calls Tryz.prog 19 #[v,vs] w fun e w'=>e=.returned (.tuple #[.int .i64 D.1,.int .i64 D.2])∧Ext w w':=by
 obtain⟨s1,A1,k1,ca1,B1,l1,cb1,s2,A2,k2,ca2,B2,l2,cb2,rfl,hxx,-⟩:=hs.form;obtain⟨A,n,c,rfl,-⟩:=hp.form;obtain⟨b,hb⟩:∃b,bigF p=b:=⟨_,rfl⟩;have HB0:=ZZ hb;have HB:=ZZ (show [p].any bigF=b by rw [←hb];simp);have HLP:=ZZ hlp;have HM0:=ZZ hM0;have HM:=ZZ hM;have BX:=ZZ bx;have BY:=ZZ by_;have HBP:=ZZ hbp;have HOK:=ZZ hok;have HD:=ZZ hD;have x1:=ab w (.cells #[.bool s1,.slice A1 k1 ca1,.slice B1 l1 cb1,.bool s2,.slice A2 k2 ca2,.slice B2 l2 cb2] 37);have E1:=ZZ x1;have HP:=ZZ (hp.mono x1);have HSP:=ZZ (hs.mono x1);have HXX:=ZZ (hxx.mono x1);have HL1:=ZZ (pll_one (hp.mono x1));have R1:=ZZ (heap_alloc_new w (.cells #[.bool s1,.slice A1 k1 ca1,.slice B1 l1 cb1,.bool s2,.slice A2 k2 ca2,.slice B2 l2 cb2] 37));clear hb hlp hM0 hM bx by_ hok x1 hp hs hbp hD hxx
 go_enter Tryz.func19,Tryz.ntmps19
 go_upto_region 1 with (fail)
 generalize w.alloc (.cells #[.bool s1,.slice A1 k1 ca1,.slice B1 l1 cb1,.bool s2,.slice A2 k2 ca2,.slice B2 l2 cb2] _)=W1 at *;obtain⟨gx,hgx⟩:∃g,w.heap.size=g:=⟨_,rfl⟩;rw [hgx] at R1;rw [hgx];clear hgx;go_wp2_with fail;refine(long_p _ [p] (by simp) (fun l hl=>by rw [List.mem_singleton.1 hl];have:=HLP.out;omega) _ HL1.out b HB.out).mono ?_;rintro e w3 ⟨rfl,kk3⟩;have K3:=ZZ (ak (ab _ _) kk3);clear kk3
 cases b with
 | true=>
  have HDE:=ZZ (show D=(0,3) from by rw [←HD.out];unfold positiveE;rw [HB0.out];rfl);go_wp2_with fail;refine bodyPost_ret (v:=.tuple #[.int .i64 0,.int .i64 3]) (by simp [results,Tryz.f19]) rfl ?_;rw [HDE.out];exact⟨rfl,ak E1.out K3.out⟩
 | false=>
  go_wp2_with fail;refine(deg_q _ p (by have:=HLP.out;omega) _ (HP.out.mono K3.out)).mono ?_
  rintro e w4 ⟨rfl,kk4⟩;have K4:=ZZ (ak K3.out kk4);clear kk4;obtain⟨m,hm⟩:∃m,(trimF p).length=m:=⟨_,rfl⟩;rw [hm]
  rcases Nat.eq_zero_or_pos m with h0|h0
  ·have HDE:=ZZ (show D=(0,0) from by rw [←HD.out];unfold positiveE;rw [HB0.out,if_neg (by decide),if_pos (List.length_eq_zero_iff.1 (hm.trans h0))])
   subst h0;clear hm;have q1:decide (((0:Nat):Int) - 1<0)=true:=rfl;have q2:((0:Nat):Int) - 1 = -1:=rfl;rw [q2];go_wp2_with fail;refine bodyPost_ret (v:=.tuple #[.int .i64 0,.int .i64 0]) (by simp [results,Tryz.f19]) rfl ?_;rw [HDE.out];exact⟨rfl,ak E1.out K4.out⟩
  ·have hne:trimF p≠[]:=fun e=>by rw [e] at hm;simp at hm;omega
   have HNE:=ZZ hne;have q1:decide ((m:Int) - 1<0)=false:=decide_eq_false (by omega);have q1':decide ((m:Int)<1)=false:=decide_eq_false (by omega);obtain⟨z,hz⟩:∃z,insideF p x y=z:=⟨_,rfl⟩;have HZ:=ZZ hz;clear hm hne hz;obtain⟨p0,p1,p2,p3,p4,p5,-⟩:=ai ((K4.out.block _ (lt_of_block R1.out)).trans R1.out);have hin:=ZZ (inside_p M HM0.out HM.out _ _ p x y HLP.out _ (HP.out.mono K4.out) (HSP.out.mono K4.out) BX.out BY.out HBP.out (HOK.out HB0.out HNE.out));rw [HZ.out] at hin;go_wp2_with fail;refine hin.out.mono ?_;rintro e w5 ⟨rfl,kk5⟩;have K5:=ZZ (ak K4.out kk5);clear kk5 hin p0 p1 p2 p3 p4 p5
   by_cases hpos:0<z
   ·have q3:decide ((0:Int)<z)=true:=decide_eq_true hpos
    have HDE:=ZZ (show D=(0,0) from by rw [←HD.out];unfold positiveE;rw [HB0.out,if_neg (by decide),if_neg HNE.out,if_pos (by rw [HZ.out];exact hpos)]);clear hpos;go_wp2_with fail;refine bodyPost_ret (v:=.tuple #[.int .i64 0,.int .i64 0]) (by simp [results,Tryz.f19]) rfl ?_;rw [HDE.out];exact⟨rfl,ak E1.out K5.out⟩
   ·have q3:decide ((0:Int)<z)=false:=decide_eq_false hpos
    obtain⟨sg,hsg⟩:∃s,(evR p x).num.sign=s:=⟨_,rfl⟩;have HDE:=ZZ (show D=(sg,0) from by rw [←HD.out];unfold positiveE;rw [HB0.out,if_neg (by decide),if_neg HNE.out,if_neg (by rw [HZ.out];exact hpos),hsg]);have HSG:=ZZ hsg;clear hpos hsg;obtain⟨p0,p1,p2,p3,p4,p5,-⟩:=ai ((K5.out.block _ (lt_of_block R1.out)).trans R1.out);have hev:=ZZ (eval_p M HM0.out _ _ p x (by have:=HLP.out;omega) (k_of HM.out HLP.out) _ (HP.out.mono K5.out) (HXX.out.mono K5.out) HBP.out BX.out);go_wp2_with fail;refine hev.out.mono ?_;rintro e x7 ⟨u7,rfl,h7,kk7⟩;have H7:=ZZ h7;have K7:=ZZ (ak K5.out kk7);clear h7 kk7 hev p0 p1 p2 p3 p4 p5;go_wp2_with fail;refine(sign_q' _ (evR p x) _ sg HSG.out H7.out).mono ?_;rintro e x8 ⟨rfl,kk8⟩;have K8:=ZZ (ak E1.out (ak K7.out kk8));clear kk8;go_wp2_with fail;refine bodyPost_ret (v:=.tuple #[.int .i64 sg,.int .i64 0]) (by simp [results,Tryz.f19]) rfl ?_;rw [HDE.out];exact⟨rfl,K8.out⟩
end Go.Proofs.YtjamgccgoapbeaaGreatDoor
