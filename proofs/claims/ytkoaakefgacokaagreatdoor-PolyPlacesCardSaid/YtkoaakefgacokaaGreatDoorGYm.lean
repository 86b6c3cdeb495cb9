/- The ends of a span in order; roots in a span. -/
import Derived.Test.YtkoaakefgacokaaGreatDoorGYj
set_option linter.unusedVariables false
set_option linter.unusedSimpArgs false
set_option maxRecDepth 100000
set_option maxHeartbeats 64000000
namespace Go.Proofs.YtkoaakefgacokaaGreatDoor
open Go Go.RowKit
section
variable {P:Program} {md:Region.Mode} {ops:Array Oper} {Q:Exit→Act→World→Prop} {S:World→Prop}
theorem two_p {fuel:Nat} {listed:Array Bool} {a:Act} {w:World} {i j:Nat} {oi oj:Oper} (hi:ops[i]?=some oi) (hj:ops[j]?=some oj) (hr:Region.ready md ops listed=[i,j]) (h1:∀K':Act→World→Prop,Shut (∀a w,S w→(S w→wpAnyH P md ops Q S fuel (listed.setIfInBounds i true) a w)→K' a w)→if Region.wanted oi (yielded ops a.tmps)=true then Oper.wp P oi a w K' Q else K' (a.put oi.dst undef) w) (h2:∀K':Act→World→Prop,Shut (∀a w,S w→(S w→wpAnyH P md ops Q S fuel (listed.setIfInBounds j true) a w)→K' a w)→if Region.wanted oj (yielded ops a.tmps)=true then Oper.wp P oj a w K' Q else K' (a.put oj.dst undef) w):wpAnyH P md ops Q S (fuel+1) listed a w:=wpAnyH_ready hr (by simp) (AllReadyH.cons hi h1 (AllReadyH.cons hj h2 AllReadyH.nil))
end
theorem sorted_p (M:Nat) (hM:M≤1099511627776) (v:Value) (x y:Rat) (w:World) (h:Sp w v x y) (bx:Bq M x) (by_:Bq M y):Calls Tryz.prog 34 #[v] w fun e w'=>∃v1 v2,e=.returned (.tuple #[v1,v2])∧Nm w' v1 (aq x y)∧Nm w' v2 (ar x y)∧Ext w w':=by
 obtain⟨s1,A1,k1,ca1,B1,l1,cb1,s2,A2,k2,ca2,B2,l2,cb2,rfl,hx,hy⟩:=h.form;have HM:=ZZ hM;have BX:=ZZ bx;have BY:=ZZ by_;have x1:=ab w (.cells #[.bool s1,.slice A1 k1 ca1,.slice B1 l1 cb1,.bool s2,.slice A2 k2 ca2,.slice B2 l2 cb2] 40);have x2:=ab (w.alloc (.cells #[.bool s1,.slice A1 k1 ca1,.slice B1 l1 cb1,.bool s2,.slice A2 k2 ca2,.slice B2 l2 cb2] 40)) (.cells #[.bool false,.slice none 0 0,.slice none 0 0] 38);have x3:=ab ((w.alloc (.cells #[.bool s1,.slice A1 k1 ca1,.slice B1 l1 cb1,.bool s2,.slice A2 k2 ca2,.slice B2 l2 cb2] 40)).alloc (.cells #[.bool false,.slice none 0 0,.slice none 0 0] 38)) (.cells #[.bool false,.slice none 0 0,.slice none 0 0] 38);have r1:=((al x2 x3).block _ (lt_of_block (heap_alloc_new w (.cells #[.bool s1,.slice A1 k1 ca1,.slice B1 l1 cb1,.bool s2,.slice A2 k2 ca2,.slice B2 l2 cb2] 40)))).trans (heap_alloc_new w (.cells #[.bool s1,.slice A1 k1 ca1,.slice B1 l1 cb1,.bool s2,.slice A2 k2 ca2,.slice B2 l2 cb2] 40));have r2:=(x3.block _ (lt_of_block (heap_alloc_new (w.alloc (.cells #[.bool s1,.slice A1 k1 ca1,.slice B1 l1 cb1,.bool s2,.slice A2 k2 ca2,.slice B2 l2 cb2] 40)) (.cells #[.bool false,.slice none 0 0,.slice none 0 0] 38)))).trans (heap_alloc_new (w.alloc (.cells #[.bool s1,.slice A1 k1 ca1,.slice B1 l1 cb1,.bool s2,.slice A2 k2 ca2,.slice B2 l2 cb2] 40)) (.cells #[.bool false,.slice none 0 0,.slice none 0 0] 38))
 have r3:=heap_alloc_new ((w.alloc (.cells #[.bool s1,.slice A1 k1 ca1,.slice B1 l1 cb1,.bool s2,.slice A2 k2 ca2,.slice B2 l2 cb2] 40)).alloc (.cells #[.bool false,.slice none 0 0,.slice none 0 0] 38)) (.cells #[.bool false,.slice none 0 0,.slice none 0 0] 38);rw [World.size_alloc,World.size_alloc] at r3;rw [World.size_alloc] at r2;have EW:=ZZ (al x1 (al x2 x3));have N1:=ZZ (hx.mono EW.out);have N2:=ZZ (hy.mono EW.out);have R1:=ZZ r1;have R2:=ZZ r2;have R3:=ZZ r3;clear h hx hy hM bx by_ x1 x2 x3 r1 r2 r3
 go_enter Tryz.func34,Tryz.ntmps34
 go_upto_region 1 with (fail)
 generalize ((w.alloc (.cells #[.bool s1,.slice A1 k1 ca1,.slice B1 l1 cb1,.bool s2,.slice A2 k2 ca2,.slice B2 l2 cb2] _)).alloc (.cells #[.bool false,.slice none 0 0,.slice none 0 0] _)).alloc (.cells #[.bool false,.slice none 0 0,.slice none 0 0] _)=W3 at *;obtain⟨gx,hgx⟩:∃g,w.heap.size=g:=⟨_,rfl⟩;obtain⟨g2,hg2⟩:∃g,w.heap.size+1=g:=⟨_,rfl⟩;obtain⟨g3,hg3⟩:∃g,w.heap.size+1+1=g:=⟨_,rfl⟩;have HGD:=ZZ (show g2≠gx∧g3≠gx∧g3≠g2∧w.heap.size≤g2∧w.heap.size≤g3 from ⟨by omega,by omega,by omega,by omega,by omega⟩);rw [hgx] at R1;rw [hg2] at R2;rw [hg3] at R3;rw [hg3,hg2,hgx];clear hgx hg2 hg3;have HRX:=ZZ (show ∀W,Ext W3 W→W.heap[gx]?=some (.cells #[.bool s1,.slice A1 k1 ca1,.slice B1 l1 cb1,.bool s2,.slice A2 k2 ca2,.slice B2 l2 cb2] 40 (0,0)) from fun W k=>(k.block _ (lt_of_block R1.out)).trans R1.out);have Hg2:=ZZ (show ∀W,Ext W3 W→W.heap[g2]?=some (.cells #[.bool false,.slice none 0 0,.slice none 0 0] 38 (0,0)) from fun W k=>(k.block _ (lt_of_block R2.out)).trans R2.out);have Hg3:=ZZ (show ∀W,Ext W3 W→W.heap[g3]?=some (.cells #[.bool false,.slice none 0 0,.slice none 0 0] 38 (0,0)) from fun W k=>(k.block _ (lt_of_block R3.out)).trans R3.out)
 have HC:=ZZ (show ∀W,Ext W3 W→W.cell? ⟨gx,0,none⟩=some (.bool s1)∧W.cell? ⟨gx,1,none⟩=some (.slice A1 k1 ca1)∧W.cell? ⟨gx,2,none⟩=some (.slice B1 l1 cb1)∧W.cell? ⟨gx,3,none⟩=some (.bool s2)∧W.cell? ⟨gx,4,none⟩=some (.slice A2 k2 ca2)∧W.cell? ⟨gx,5,none⟩=some (.slice B2 l2 cb2) from fun W k=>by
  obtain⟨y0,y1,y2,y3,y4,y5,-⟩:=ai (HRX.out W k);exact⟨y0,y1,y2,y3,y4,y5⟩)
 clear R1 R2 R3;have hun:undef=.tuple #[]:=rfl;refine wp_region_noPanic ?_;refine wp_region_held_drew (S:=fun W=>W.cell? ⟨gx,0,none⟩=some (.bool s1)∧W.cell? ⟨gx,1,none⟩=some (.slice A1 k1 ca1)∧W.cell? ⟨gx,2,none⟩=some (.slice B1 l1 cb1)∧W.cell? ⟨gx,3,none⟩=some (.bool s2)∧W.cell? ⟨gx,4,none⟩=some (.slice A2 k2 ca2)∧W.cell? ⟨gx,5,none⟩=some (.slice B2 l2 cb2)) (by kernel_rfl) (HC.out _ (ac _)) (fun hHeld=>?_);refine take_a 0 4 ?_;refine take_a 1 5 ?_;refine take_a 2 6 ?_;refine take_a 3 7 ?_;refine take_a 5 9 ?_;refine take_a 6 10 ?_;refine take_a 7 11 ?_;refine take_a 8 12 ?_;refine call_p (i:=4) (some 8) rfl rfl (by kernel_rfl) (fun K hK=>?_)
 go_simp
 go_at_call 77
 refine(min_q M (by have:=HM.out;omega) _ _ x y _ (N1.out.mono (ac _)) (N2.out.mono (ac _)) BX.out BY.out).mono ?_;rintro e w5 ⟨v5,rfl,h5,kk5⟩;obtain⟨s5,A5,k5,ca5,B5,l5,cb5,rfl⟩:=h5.form2;have H5:=ZZ h5;have hx1:=ZZ (show Ext W3 w5 from al (ac _) kk5);clear h5 kk5
 try go_wp2_with fail
 refine hK.out _ _ (HC.out _ hx1.out) (fun hHeld=>?_);clear hK K
 try simp only [Act.put,lyA,lyB,lyC]
 refine call_p (i:=9) (some 13) rfl rfl (by kernel_rfl) (fun K hK=>?_)
 go_simp
 go_at_call 78
 refine(max_q M (by have:=HM.out;omega) _ _ x y _ (N1.out.mono hx1.out) (N2.out.mono hx1.out) BX.out BY.out).mono ?_;rintro e w6 ⟨v6,rfl,h6,kk6⟩;obtain⟨s6,A6,k6,ca6,B6,l6,cb6,rfl⟩:=h6.form2;have H6:=ZZ h6;have H5b:=ZZ (H5.out.mono kk6);have hx2:=ZZ (al hx1.out kk6);clear h6 kk6
 try go_wp2_with fail
 refine hK.out _ _ (HC.out _ hx2.out) (fun hHeld=>?_);clear hK K
 try simp only [Act.put,lyA,lyB,lyC]
 refine call_p (i:=10) none rfl rfl (by kernel_rfl) (fun K hK=>?st1)
 case st1=>
  have hr1:=(Hg2.out w6 hx2.out);obtain⟨zz0,zz1,zz2,zf0,zf1,zf2⟩:=aj hr1;clear hr1
  go_simp
  have ra:=put3b_other (W:=w6) (g:=g2) (k:=gx) (.bool s5) (.slice A5 k5 ca5) (.slice B5 l5 cb5) (fun e=>HGD.out.1 e.symm);have rb:=put3b_other (W:=w6) (g:=g2) (k:=g3) (.bool s5) (.slice A5 k5 ca5) (.slice B5 l5 cb5) (HGD.out.2.2.1);have rc:=put3b_row (Hg2.out w6 hx2.out) (.bool s5) (.slice A5 k5 ca5) (.slice B5 l5 cb5);have nA:=nm_put3b H5b.out (Hg2.out w6 hx2.out) (.bool s5) (.slice A5 k5 ca5) (.slice B5 l5 cb5);have nB:=nm_put3b H6.out (Hg2.out w6 hx2.out) (.bool s5) (.slice A5 k5 ca5) (.slice B5 l5 cb5);have eA:Ext w (put3at w6 g2 0 (.bool s5) (.slice A5 k5 ca5) (.slice B5 l5 cb5)):=(((al EW.out hx2.out).setCell HGD.out.2.2.2.1 _).setCell HGD.out.2.2.2.1 _).setCell HGD.out.2.2.2.1 _;have ra:=ra.trans (HRX.out w6 hx2.out);have rb:=rb.trans (Hg3.out w6 hx2.out);generalize hW8:(World.setCell (World.setCell (World.setCell w6 ⟨g2,0,none⟩ (.bool s5)) ⟨g2,1,none⟩ (.slice A5 k5 ca5)) ⟨g2,2,none⟩ (.slice B5 l5 cb5))=W8;have hW8':put3at w6 g2 0 (.bool s5) (.slice A5 k5 ca5) (.slice B5 l5 cb5)=W8:=hW8;rw [hW8'] at ra rb rc nA nB eA;have RA:=ZZ ra;have RB:=ZZ rb;have RC:=ZZ rc;have NA:=ZZ nA;have NB:=ZZ nB;have EA:=ZZ eA;clear ra rb rc nA nB eA hW8 hW8' zz0 zz1 zz2 zf0 zf1 zf2;refine hK.out _ _ (by obtain⟨y0,y1,y2,y3,y4,y5,-⟩:=ai RA.out;exact⟨y0,y1,y2,y3,y4,y5⟩) (fun hHeld=>?_);clear hK K
  try simp only [Act.put,lyA,lyB,lyC]
  refine call_p (i:=11) none rfl rfl (by kernel_rfl) (fun K hK=>?_);obtain⟨zz0,zz1,zz2,zf0,zf1,zf2⟩:=aj RB.out
  go_simp
  have ra:=(put3b_other (W:=W8) (g:=g3) (k:=gx) (.bool s6) (.slice A6 k6 ca6) (.slice B6 l6 cb6) (fun e=>HGD.out.2.1 e.symm)).trans RA.out;have rd:=(put3b_other (W:=W8) (g:=g3) (k:=g2) (.bool s6) (.slice A6 k6 ca6) (.slice B6 l6 cb6) ((fun e=>HGD.out.2.2.1 e.symm))).trans RC.out;have rc:=put3b_row RB.out (.bool s6) (.slice A6 k6 ca6) (.slice B6 l6 cb6);have nA:=nm_put3b NA.out RB.out (.bool s6) (.slice A6 k6 ca6) (.slice B6 l6 cb6);have nB:=nm_put3b NB.out RB.out (.bool s6) (.slice A6 k6 ca6) (.slice B6 l6 cb6);have eA:Ext w (put3at W8 g3 0 (.bool s6) (.slice A6 k6 ca6) (.slice B6 l6 cb6)):=((EA.out.setCell HGD.out.2.2.2.2 _).setCell HGD.out.2.2.2.2 _).setCell HGD.out.2.2.2.2 _;generalize hW9:(World.setCell (World.setCell (World.setCell W8 ⟨g3,0,none⟩ (.bool s6)) ⟨g3,1,none⟩ (.slice A6 k6 ca6)) ⟨g3,2,none⟩ (.slice B6 l6 cb6))=W9;have hW9':put3at W8 g3 0 (.bool s6) (.slice A6 k6 ca6) (.slice B6 l6 cb6)=W9:=hW9;rw [hW9'] at ra rd rc nA nB eA;have RA9:=ZZ ra;have RD9:=ZZ rd;have RC9:=ZZ rc;have NA9:=ZZ nA;have NB9:=ZZ nB;have EA9:=ZZ eA;clear ra rd rc nA nB eA hW9 hW9' zz0 zz1 zz2 zf0 zf1 zf2;refine hK.out _ _ (by obtain⟨y0,y1,y2,y3,y4,y5,-⟩:=ai RA9.out;exact⟨y0,y1,y2,y3,y4,y5⟩) (fun hHeld=>?_);clear hK K
  try simp only [Act.put,lyA,lyB,lyC]
  refine wpAnyH_done (by kernel_rfl) ?_ _;refine NoPanic.normal ?_;obtain⟨a0,a1,a2,-⟩:=aj RD9.out;obtain⟨b0,b1,b2,-⟩:=aj RC9.out;go_wp2_with fail;refine bodyPost_ret (v:=.tuple #[.agg #[.bool s5,.slice A5 k5 ca5,.slice B5 l5 cb5],.agg #[.bool s6,.slice A6 k6 ca6,.slice B6 l6 cb6]]) (by simp [results,Tryz.f34];go_simp) rfl ?_;exact⟨_,_,rfl,NA9.out,NB9.out,EA9.out⟩
end Go.Proofs.YtkoaakefgacokaaGreatDoor
namespace Go.Proofs.YtkoaakefgacokaaGreatDoor
open Go.RowKit
theorem bq_minQ {M:Nat} {x y:Rat} (h:Bq M x) (k:Bq M y):Bq M (aq x y):=by unfold aq;split <;> assumption
theorem bq_maxQ {M:Nat} {x y:Rat} (h:Bq M x) (k:Bq M y):Bq M (ar x y):=by unfold ar;split <;> assumption
def insideF (p:List Rat) (x y:Rat):Int:=betweenF (ownF p) (aq x y) (ar x y)+if (evR p (aq x y)).num.sign=0 then 1 else 0
theorem between_bound (p:List Rat) (lo hi:Rat):-(2*(p.length:Int)+4)≤betweenF (ownF p) lo hi∧betweenF (ownF p) lo hi≤2*(p.length:Int)+4:=by
 have h1:=flips_bound 0 ((ownF p).map (atF lo));have h2:=flips_bound 0 ((ownF p).map (atF hi));rw [List.length_map] at h1 h2;have h3:=own_len p;unfold betweenF flipsF;omega
theorem inside_p (M:Nat) (hM0:0<M) (hM:M≤5400000000) (v vs:Value) (p:List Rat) (x y:Rat) (hlp:p.length≤100) (w:World) (hp:Pl w v p) (hs:Sp w vs x y) (bx:Bq M x) (by_:Bq M y) (hbp:∀c ∈ p,Bq M c) (hok:ownOk M p=true):Calls Tryz.prog 35 #[v,vs] w fun e w'=>e=.returned (.int .i64 (insideF p x y))∧Ext w w':=by
 obtain⟨s1,A1,k1,ca1,B1,l1,cb1,s2,A2,k2,ca2,B2,l2,cb2,rfl,-,-⟩:=hs.form;have HLP:=ZZ hlp;have HOL:=ZZ (show (ownF p).length≤1000000 from Nat.le_trans (own_len p) (by omega));obtain⟨zb,hzb⟩:∃z,betweenF (ownF p) (aq x y) (ar x y)=z:=⟨_,rfl⟩;have hbb:=between_bound p (aq x y) (ar x y);rw [hzb] at hbb;obtain⟨sg,hsg⟩:∃z,(evR p (aq x y)).num.sign=z:=⟨_,rfl⟩;have HIF:=ZZ (show insideF p x y=zb+if sg=0 then 1 else 0 by unfold insideF;rw [hzb,hsg]);have q3:IntKind.i64.wrap (zb+1)=zb+1:=IntWalk.i64_in _ (by omega);have HBZ:=ZZ hzb;have HSG:=ZZ hsg;have HM0:=ZZ hM0;have HM:=ZZ hM;have BX:=ZZ bx;have BY:=ZZ by_;have HBP:=ZZ hbp;have HOW:=ZZ hok;have HCB:=ZZ (show cB M (ownF p)=true from by have h:=hok;unfold ownOk at h;rw [Bool.and_eq_true] at h;exact h.2);have x1:=ab w (.cells #[.bool s1,.slice A1 k1 ca1,.slice B1 l1 cb1,.bool s2,.slice A2 k2 ca2,.slice B2 l2 cb2] 40);have E1:=ZZ x1;have HP:=ZZ (hp.mono x1);have HSP:=ZZ (hs.mono x1);have R1:=ZZ (heap_alloc_new w (.cells #[.bool s1,.slice A1 k1 ca1,.slice B1 l1 cb1,.bool s2,.slice A2 k2 ca2,.slice B2 l2 cb2] 40));clear hlp hzb hsg hM0 hM bx by_ hok x1 hp hs hbb hbp
 go_enter Tryz.func35,Tryz.ntmps35
 go_upto_region 1 with (fail)
 generalize w.alloc (.cells #[.bool s1,.slice A1 k1 ca1,.slice B1 l1 cb1,.bool s2,.slice A2 k2 ca2,.slice B2 l2 cb2] _)=W1 at *;obtain⟨gx,hgx⟩:∃g,w.heap.size=g:=⟨_,rfl⟩;rw [hgx] at R1;rw [hgx];clear hgx;obtain⟨p0,p1,p2,p3,p4,p5,-⟩:=ai R1.out;go_wp2_with fail;refine(sorted_p M (by have:=HM.out;omega) _ x y _ HSP.out BX.out BY.out).mono ?_;rintro e w3 ⟨v5,v6,rfl,h5,h6,kk3⟩;obtain⟨s5,A5,k5,ca5,B5,l5,cb5,rfl⟩:=h5.form2;obtain⟨s6,A6,k6,ca6,B6,l6,cb6,rfl⟩:=h6.form2;have H5:=ZZ h5;have H6:=ZZ h6;have K3:=ZZ kk3;clear h5 h6 kk3 p0 p1 p2 p3 p4 p5
 go_upto_region 2 with (fail)
 have y1:=ab w3 (.cells #[.bool s5,.slice A5 k5 ca5,.slice B5 l5 cb5] 38);have y2:=ab (w3.alloc (.cells #[.bool s5,.slice A5 k5 ca5,.slice B5 l5 cb5] 38)) (.cells #[.bool s6,.slice A6 k6 ca6,.slice B6 l6 cb6] 38);have r1:=(y2.block _ (lt_of_block (heap_alloc_new w3 (.cells #[.bool s5,.slice A5 k5 ca5,.slice B5 l5 cb5] 38)))).trans (heap_alloc_new w3 (.cells #[.bool s5,.slice A5 k5 ca5,.slice B5 l5 cb5] 38));have r2:=heap_alloc_new (w3.alloc (.cells #[.bool s5,.slice A5 k5 ca5,.slice B5 l5 cb5] 38)) (.cells #[.bool s6,.slice A6 k6 ca6,.slice B6 l6 cb6] 38);rw [World.size_alloc] at r2;have E4:=ZZ (al K3.out (al y1 y2));have N1:=ZZ (H5.out.mono (al y1 y2));have N2:=ZZ (H6.out.mono (al y1 y2));have HPL:=ZZ (HP.out.mono E4.out);have RA:=ZZ r1;have RB:=ZZ r2;clear y1 y2 r1 r2;generalize (w3.alloc (.cells #[.bool s5,.slice A5 k5 ca5,.slice B5 l5 cb5] _)).alloc (.cells #[.bool s6,.slice A6 k6 ca6,.slice B6 l6 cb6] _)=W4 at *;obtain⟨ga,hga⟩:∃g,w3.heap.size=g:=⟨_,rfl⟩;obtain⟨gb,hgb⟩:∃g,w3.heap.size+1=g:=⟨_,rfl⟩;rw [hga] at RA;rw [hgb] at RB;rw [hgb,hga]
 have HC:=ZZ (show ∀W,Ext W4 W→W.cell? ⟨ga,0,none⟩=some (.bool s5)∧W.cell? ⟨ga,1,none⟩=some (.slice A5 k5 ca5)∧W.cell? ⟨ga,2,none⟩=some (.slice B5 l5 cb5)∧W.cell? ⟨gb,0,none⟩=some (.bool s6)∧W.cell? ⟨gb,1,none⟩=some (.slice A6 k6 ca6)∧W.cell? ⟨gb,2,none⟩=some (.slice B6 l6 cb6) from fun W k=>by
  obtain⟨y0,y1,y2,-⟩:=aj ((k.block _ (lt_of_block RA.out)).trans RA.out);obtain⟨u0,u1,u2,-⟩:=aj ((k.block _ (lt_of_block RB.out)).trans RB.out);exact⟨y0,y1,y2,u0,u1,u2⟩)
 clear hga hgb;have hun:undef=.tuple #[]:=rfl;refine wp_region_noPanic ?_;refine wp_region_held_drew (S:=fun W=>W.cell? ⟨ga,0,none⟩=some (.bool s5)∧W.cell? ⟨ga,1,none⟩=some (.slice A5 k5 ca5)∧W.cell? ⟨ga,2,none⟩=some (.slice B5 l5 cb5)∧W.cell? ⟨gb,0,none⟩=some (.bool s6)∧W.cell? ⟨gb,1,none⟩=some (.slice A6 k6 ca6)∧W.cell? ⟨gb,2,none⟩=some (.slice B6 l6 cb6)) (by kernel_rfl) (HC.out _ (ac _)) (fun hHeld=>?_);refine take_a 0 13 ?_;refine take_a 2 15 ?_;refine take_a 3 16 ?_;refine call_p (i:=1) (some 14) rfl rfl (by kernel_rfl) (fun K hK=>?_)
 go_simp
 go_at_call 39
 refine(own_p M HM0.out HM.out _ p (by have:=HLP.out;omega) _ (HPL.out.mono (ac _)) HOW.out).mono ?_;rintro e x5 ⟨u5,rfl,h9,kk9⟩;obtain⟨A9,cap9,e9,-⟩:=id h9;obtain⟨n9,hn9⟩:∃n,(ownF p).length=n:=⟨_,rfl⟩;rw [hn9] at e9;subst e9;have H9:=ZZ h9;have HN9:=ZZ hn9;have hx1:=ZZ (show Ext W4 x5 from al (ac _) kk9);clear h9 kk9 hn9
 try go_wp2_with fail
 refine hK.out _ _ (HC.out _ hx1.out) (fun hHeld=>?_);clear hK K
 try simp only [Act.put,lyA,lyB,lyC]
 refine call_p (i:=4) (some 17) rfl rfl (by kernel_rfl) (fun K hK=>?_)
 go_simp
 go_at_call 38
 refine(between_p M HM0.out HM.out _ _ _ (ownF p) (aq x y) (ar x y) HOL.out HCB.out _ H9.out (N1.out.mono hx1.out) (N2.out.mono hx1.out) (bq_minQ BX.out BY.out) (bq_maxQ BX.out BY.out)).mono ?_;rintro e x6 ⟨rfl,kk6⟩;rw [HBZ.out];have hx2:=ZZ (al hx1.out kk6);clear kk6
 try go_wp2_with fail
 refine hK.out _ _ (HC.out _ hx2.out) (fun hHeld=>?_);clear hK K
 try simp only [Act.put,lyA,lyB,lyC]
 refine take_a 5 7 ?_;refine wpAnyH_done (by kernel_rfl) ?_ _;refine NoPanic.normal ?_;obtain⟨p0,p1,p2,-⟩:=HC.out _ hx2.out;have hev:=ZZ (eval_p M HM0.out _ _ p (aq x y) (by have:=HLP.out;omega) (k_of HM.out HLP.out) _ (HPL.out.mono hx2.out) (N1.out.mono hx2.out) HBP.out (bq_minQ BX.out BY.out));go_wp2_with fail;refine hev.out.mono ?_;rintro e x7 ⟨u7,rfl,h7,kk7⟩;have H7:=ZZ h7;have K7:=ZZ kk7;clear h7 kk7 hev p0 p1 p2;go_wp2_with fail;refine(sign_q' _ (evR p (aq x y)) _ sg HSG.out H7.out).mono ?_;rintro e x8 ⟨rfl,kk8⟩;have K8:=ZZ (al E1.out (al E4.out (al hx2.out (al K7.out kk8))));clear kk8
 by_cases h0:sg=0
 ·subst h0
  have z0:((0:Int) == 0)=true:=rfl;go_wp2_with fail;go_ret;exact⟨show Ending.returned (.int .i64 (zb+1))=Ending.returned (.int .i64 (insideF p x y)) by rw [HIF.out];simp,K8.out⟩
 ·have z0:(sg == 0)=false:=beq_eq_false_iff_ne.2 h0
  have HZ0:=ZZ h0;clear h0;go_wp2_with fail;go_ret;exact⟨show Ending.returned (.int .i64 zb)=Ending.returned (.int .i64 (insideF p x y)) by rw [HIF.out,if_neg HZ0.out,Int.add_zero],K8.out⟩
def alongU (x y:List Rat):List Rat→List Rat × List Rat
 | []=>([],[])
 | c :: p=>(addF (subF (mulF (alongU x y p).1 x) (mulF (alongU x y p).2 y)) [c],addF (mulF (alongU x y p).1 y) (mulF (alongU x y p).2 x))
def alongB (M:Nat) (x y:List Rat):List Rat→Bool
 | []=>true
 | c :: p=>alongB M x y p && smB M [c] && smB M (alongU x y p).1 && smB M (alongU x y p).2 && smB M (mulF (alongU x y p).1 x) && smB M (mulF (alongU x y p).2 y) && smB M (subF (mulF (alongU x y p).1 x) (mulF (alongU x y p).2 y)) && smB M (mulF (alongU x y p).1 y) && smB M (mulF (alongU x y p).2 x) &&
   decide ((alongU x y p).1.length≤100) && decide ((alongU x y p).2.length≤100)
def alongOk (M:Nat) (x y p:List Rat):Bool:=alongB M x y p && smB M x && smB M y && decide (x.length≤100) && decide (y.length≤100)
theorem alongB_drop {M:Nat} {x y:List Rat} {p:List Rat} (h:alongB M x y p=true) (j:Nat):alongB M x y (p.drop j)=true:=by
 induction j generalizing p with
 | zero=>exact h
 | succ j ih=>
  cases p with
  | nil=>rfl
  | cons c p=>
   refine ih ?_;unfold alongB at h
   simp only [Bool.and_eq_true] at h
   exact h.1.1.1.1.1.1.1.1.1.1
theorem mulF_len (p q:List Rat):(mulF p q).length≤p.length+q.length:=by
 rw [←mulF_acc]
 have:=trim_le (accL p q p.length 0)
 rwa [acc_len] at this
theorem pl_one {w:World} {A:Option Addr} {n c i:Nat} {l:List Rat} {q:Rat} (h:Pl w (.slice A n c) l) (hi:l[i]?=some q):∃b o,A=some ⟨b,o,none⟩∧Pl w (.slice (some ⟨b,o+i*3,none⟩) 1 (c - i)) [q]:=by
 obtain⟨A',cap,e,hc,hA⟩:=h
 injection e with e1 e2 e3
 subst e1 e2 e3
 rcases hA with ⟨-,h⟩|⟨b,o,e4,ht⟩
 ·rw [h] at hi;cases hi
 ·have hlt:=(List.getElem?_eq_some_iff.1 hi).1
  refine⟨b,o,e4,_,c - i,rfl,by simp;omega,.inr ⟨b,o+i*3,rfl,fun j r hr=>?_⟩⟩
  match j,hr with
  | 0,hr=>
   obtain rfl:q=r:=Option.some.inj hr
   have:=ht i q hi
   simpa using this
theorem k_of1 {M n:Nat} (hM:M≤5400000000) (hn:n≤100):n*(M+M+1)+1≤1099511627776:=by
 have h1:n*(M+M+1)≤100*(M+M+1):=Nat.mul_le_mul_right _ hn;omega
theorem along_p (M:Nat) (hM0:0<M) (hM:M≤5400000000) (vp vx vy:Value) (p X Y:List Rat) (hlp:p.length≤100000) (w:World) (hp:Pl w vp p) (hx:Pl w vx X) (hy:Pl w vy Y) (hok:alongOk M X Y p=true):Calls Tryz.prog 25 #[vp,vx,vy] w fun e w'=>∃v1 v2,e=.returned (.tuple #[v1,v2])∧Pl w' v1 (alongU X Y p).1∧Pl w' v2 (alongU X Y p).2∧Ext w w':=by
 unfold alongOk at hok
 simp only [Bool.and_eq_true] at hok
 obtain⟨⟨⟨⟨hb,sx⟩,sy⟩,lx⟩,ly⟩:=hok;obtain⟨A,n,cp,rfl,hn⟩:=hp.form;obtain⟨Ax,nx,cx,rfl,-⟩:=hx.form;obtain⟨Ay,ny,cy,rfl,-⟩:=hy.form;have HP:=ZZ hp;have Hx0:=ZZ hx;have Hy0:=ZZ hy;have HLP:=ZZ hlp;have HN:=ZZ hn;have HM0:=ZZ hM0;have HM:=ZZ hM;have HB:=ZZ hb;have Sx:=ZZ (sm_of sx);have Sy:=ZZ (sm_of sy);have HLx:=ZZ (of_decide_eq_true lx);have HLy:=ZZ (of_decide_eq_true ly);have HNL:=ZZ (show n≤100000 by omega);have q0:IntKind.i64.wrap ((n:Int) - 1)=(n:Int) - 1:=IntWalk.i64_in _ (by omega);clear hp hx hy hlp hn hM0 hM hb sx sy lx ly
 go_enter Tryz.func25,Tryz.ntmps25
 go_wp2_with fail
 go_loopg [8,6,7] n (fun k i vr vi wr=>Hid (k≤n)∧i=.int .i64 ((k:Int) - 1)∧Hid (Pl wr vr (alongU X Y (p.drop k)).1)∧Hid (Pl wr vi (alongU X Y (p.drop k)).2)∧Hid (Ext w wr))
 case atStart=>exact⟨ZZ (Nat.le_refl _),rfl,ZZ (by rw [List.drop_eq_nil_of_le (Nat.le_of_eq HN.out)];exact Pl.nil _),ZZ (by rw [List.drop_eq_nil_of_le (Nat.le_of_eq HN.out)];exact Pl.nil _),ZZ (ae _)⟩
 case round=>
  obtain⟨HK,rfl,HR,HI,HE⟩:=hrel;rename World=>WR
  rcases Nat.eq_zero_or_pos gk with hz|hz
  ·subst hz
   have q1:decide ((0:Int)≤((0:Nat):Int) - 1)=false:=rfl;have q2:((0:Nat):Int) - 1 = -1:=rfl;rw [q2];go_wp2_with fail;refine bodyPost_ret (v:=.tuple #[u6,u7]) (by simp [results,Tryz.f25]) rfl ?_;exact⟨_,_,rfl,HR.out,HI.out,HE.out⟩
  ·obtain⟨j,rfl⟩:∃j,gk=j+1:=⟨gk - 1,by omega⟩
   have q2:((j+1:Nat):Int) - 1=(j:Int):=by omega
   rw [q2];have hjp:j<p.length:=by have h1:=HK.out;have h2:=HN.out;omega
   obtain⟨cq,hcq⟩:∃q,p[j]?=some q:=⟨p[j]'hjp,List.getElem?_eq_getElem _⟩
   have hd:p.drop j=cq :: p.drop (j+1):=by
    obtain⟨h1,h2⟩:=List.getElem?_eq_some_iff.1 hcq;rw [List.drop_eq_getElem_cons h1,h2]
   obtain⟨b,o,rfl,hone⟩:=pl_one HP.out hcq;have HONE:=ZZ (hone.mono HE.out);obtain⟨R,hR⟩:∃R,(alongU X Y (p.drop (j+1))).1=R:=⟨_,rfl⟩;obtain⟨I,hI⟩:∃I,(alongU X Y (p.drop (j+1))).2=I:=⟨_,rfl⟩;have hal:=alongB_drop HB.out j;rw [hd] at hal;unfold alongB at hal;rw [hR,hI] at hal
   simp only [Bool.and_eq_true] at hal
   obtain⟨⟨⟨⟨⟨⟨⟨⟨⟨⟨-,o1⟩,o2⟩,o3⟩,o4⟩,o5⟩,o6⟩,o7⟩,o8⟩,o9⟩,o10⟩:=hal;have Sc:=ZZ (sm_of o1);have Sr:=ZZ (sm_of o2);have Si:=ZZ (sm_of o3);have S1:=ZZ (sm_of o4);have S2:=ZZ (sm_of o5);have S3:=ZZ (sm_of o6);have S4:=ZZ (sm_of o7);have S5:=ZZ (sm_of o8);have HLr:=ZZ (of_decide_eq_true o9);have HLi:=ZZ (of_decide_eq_true o10);have HRes:=ZZ (show alongU X Y (p.drop j)=(addF (subF (mulF R X) (mulF I Y)) [cq],addF (mulF R Y) (mulF I X)) from by rw [hd];unfold alongU;rw [hR,hI]);rw [hR] at HR;rw [hI] at HI;have Hr:=HR;have Hi:=HI;have Hx:=ZZ (Hx0.out.mono HE.out);have Hy:=ZZ (Hy0.out.mono HE.out);have q4:decide ((0:Int)≤(j:Int))=true:=decide_eq_true (by omega);have q5:IntKind.i64.wrap ((j:Int)+1)=(j:Int)+1:=by have:=HNL.out;have:=HK.out;exact IntWalk.i64_in _ (by omega)
   have q6:IntKind.i64.wrap (j:Int)=(j:Int):=by have:=HNL.out;have:=HK.out;exact IntWalk.i64_in _ (by omega)
   have q7:IntKind.i64.wrap ((j:Int) - 1)=(j:Int) - 1:=by have:=HNL.out;have:=HK.out;exact IntWalk.i64_in _ (by omega)
   have q8:(0:Int)≤(j:Int):=by omega
   have q9:(j:Int)≤(j:Int)+1:=by omega
   have q10:(j:Int)+1≤(cp:Int):=by
    obtain⟨A',cap',e',hc',-⟩:=HP.out
    injection e' with e1 e2 e3
    have h1:=HN.out;have h2:=HK.out;omega
   have q11:IntKind.i64.wrap ((j:Int)+1 - (j:Int))=1:=by rw [show (j:Int)+1 - (j:Int)=1 by omega];rfl
   have q12:¬(cp=j):=by omega
   clear hjp hcq hd hone hR hI o1 o2 o3 o4 o5 o6 o7 o8 o9 o10 hz
   go_upto_region 4 with (fail)
   have hun:undef=.tuple #[]:=rfl;refine wp_region_noPanic ?_;refine wp_region_held_drew (S:=fun W=>True) (by kernel_rfl) (trivial) (fun hHeld=>?_);refine take_a 0 16 ?_;refine take_a 1 17 ?_;refine take_a 3 19 ?_;refine take_a 4 20 ?_;refine take_a 7 23 ?_;refine take_a 8 24 ?_;refine take_a 9 25 ?_;refine take_a 10 26 ?_;refine take_a 11 27 ?_;refine take_a 13 29 ?_;refine take_a 14 30 ?_;refine take_a 16 32 ?_;refine take_a 17 33 ?_;refine call_p (i:=2) (some 18) rfl rfl (by kernel_rfl) (fun K hK=>?_)
   go_simp
   go_at_call 7
   refine(mul_p M HM0.out _ _ R X (by have:=HLr.out;omega) (by have:=HLx.out;omega) (k_of1 HM.out HLr.out) _ (Hr.out.mono (ac _)) (Hx.out.mono (ac _)) Sr.out Sx.out).mono ?_;rintro e x1 ⟨u1,rfl,h1,kk1⟩;have G1:=ZZ h1.pl;have hx1:=ZZ (show Ext WR x1 from al (ac _) kk1);clear h1 kk1
   try go_wp2_with fail
   refine hK.out _ _ (trivial) (fun hHeld=>?_);clear hK K
   try simp only [Act.put,lyA,lyB,lyC]
   refine call_p (i:=5) (some 21) rfl rfl (by kernel_rfl) (fun K hK=>?_)
   go_simp
   go_at_call 7
   refine(mul_p M HM0.out _ _ I Y (by have:=HLi.out;omega) (by have:=HLy.out;omega) (k_of1 HM.out HLi.out) _ (Hi.out.mono hx1.out) (Hy.out.mono hx1.out) Si.out Sy.out).mono ?_;rintro e x2 ⟨u2,rfl,h2,kk2⟩;have G2:=ZZ h2.pl;have hx2:=ZZ (al hx1.out kk2);have K12:=ZZ kk2;clear h2 kk2
   try go_wp2_with fail
   refine hK.out _ _ (trivial) (fun hHeld=>?_);clear hK K
   try simp only [Act.put,lyA,lyB,lyC]
   refine call_p (i:=6) (some 22) rfl rfl (by kernel_rfl) (fun K hK=>?_)
   go_simp
   go_at_call 70
   refine(sub_p M (by have:=HM.out;omega) _ _ (mulF R X) (mulF I Y) (by have:=mulF_len R X;have:=HLr.out;have:=HLx.out;omega) (by have:=mulF_len I Y;have:=HLi.out;have:=HLy.out;omega) _ (G1.out.mono K12.out) G2.out S1.out S2.out).mono ?_;rintro e x3 ⟨u3,rfl,h3,kk3⟩;have G3:=ZZ h3.pl;have hx3:=ZZ (al hx2.out kk3);clear h3 kk3
   try go_wp2_with fail
   refine hK.out _ _ (trivial) (fun hHeld=>?_);clear hK K
   try simp only [Act.put,lyA,lyB,lyC]
   refine call_p (i:=12) (some 28) rfl rfl (by kernel_rfl) (fun K hK=>?_)
   go_simp
   go_at_call 69
   refine(add_p M (by have:=HM.out;omega) _ _ (subF (mulF R X) (mulF I Y)) [cq] (by have h1:=sub_len (mulF R X) (mulF I Y) 2000 (by have:=mulF_len R X;have:=HLr.out;have:=HLx.out;omega) (by have:=mulF_len I Y;have:=HLi.out;have:=HLy.out;omega);omega) (by simp) _ G3.out (HONE.out.mono hx3.out) S3.out Sc.out).mono ?_;rintro e x4 ⟨u4,rfl,h4,kk4⟩;have G4:=ZZ h4.pl;have hx4:=ZZ (al hx3.out kk4);clear h4 kk4
   try go_wp2_with fail
   refine hK.out _ _ (trivial) (fun hHeld=>?_);clear hK K
   try simp only [Act.put,lyA,lyB,lyC]
   refine call_p (i:=15) (some 31) rfl rfl (by kernel_rfl) (fun K hK=>?_)
   go_simp
   go_at_call 7
   refine(mul_p M HM0.out _ _ R Y (by have:=HLr.out;omega) (by have:=HLy.out;omega) (k_of1 HM.out HLr.out) _ (Hr.out.mono hx4.out) (Hy.out.mono hx4.out) Sr.out Sy.out).mono ?_;rintro e x5 ⟨u5,rfl,h5,kk5⟩;have G5:=ZZ h5.pl;have G4b:=ZZ (G4.out.mono kk5);have hx5:=ZZ (al hx4.out kk5);clear h5 kk5
   try go_wp2_with fail
   refine hK.out _ _ (trivial) (fun hHeld=>?_);clear hK K
   try simp only [Act.put,lyA,lyB,lyC]
   refine call_p (i:=18) (some 34) rfl rfl (by kernel_rfl) (fun K hK=>?_)
   go_simp
   go_at_call 7
   refine(mul_p M HM0.out _ _ I X (by have:=HLi.out;omega) (by have:=HLx.out;omega) (k_of1 HM.out HLi.out) _ (Hi.out.mono hx5.out) (Hx.out.mono hx5.out) Si.out Sx.out).mono ?_;rintro e x6 ⟨u6,rfl,h6,kk6⟩;have G6:=ZZ h6.pl;have G4c:=ZZ (G4b.out.mono kk6);have G5b:=ZZ (G5.out.mono kk6);have hx6:=ZZ (al hx5.out kk6);clear h6 kk6
   try go_wp2_with fail
   refine hK.out _ _ (trivial) (fun hHeld=>?_);clear hK K
   try simp only [Act.put,lyA,lyB,lyC]
   refine call_p (i:=19) (some 35) rfl rfl (by kernel_rfl) (fun K hK=>?_)
   go_simp
   go_at_call 69
   refine(add_p M (by have:=HM.out;omega) _ _ (mulF R Y) (mulF I X) (by have:=mulF_len R Y;have:=HLr.out;have:=HLy.out;omega) (by have:=mulF_len I X;have:=HLi.out;have:=HLx.out;omega) _ G5b.out G6.out S4.out S5.out).mono ?_;rintro e x7 ⟨u7,rfl,h7,kk7⟩;have G7:=ZZ h7.pl;have G4d:=ZZ (G4c.out.mono kk7);have hx7:=ZZ (al hx6.out kk7);clear h7 kk7
   try go_wp2_with fail
   refine hK.out _ _ (trivial) (fun hHeld=>?_);clear hK K
   try simp only [Act.put,lyA,lyB,lyC]
   refine take_a 20 6 ?_;refine take_a 21 7 ?_;refine wpAnyH_done (by kernel_rfl) ?_ _;refine NoPanic.normal ?_;go_wp2_with fail
   go_roundg j
   case measure=>omega
   case rel=>exact⟨ZZ (by have:=HK.out;omega),rfl,ZZ (by rw [HRes.out];exact G4d.out),ZZ (by rw [HRes.out];exact G7.out),ZZ (al HE.out hx7.out)⟩
theorem sgn_ends (b:Bool) (w:World):SgnV (w.alloc (.cells #[.bool b] 4)) (.func (.func 75) #[] #[.pointer (some ⟨w.heap.size,0,none⟩)]) (endsF b) (fun l=>l.length≤100000∧l≠[]):=
 ⟨75,#[.pointer (some ⟨w.heap.size,0,none⟩)],rfl,enters_of Tryz.func75 (by kernel_rfl) rfl,fun W k v l hp hl=>
  ends1_p b w.heap.size v l hl.1 hl.2 W ((k.block _ (lt_of_block (heap_alloc_new w _))).trans (heap_alloc_new w _)) hp⟩
def turnF (c:List (List Rat)):Int:=flipsF c (endsF true) - flipsF c (endsF false)
def neB (c:List (List Rat)):Bool:=c.all fun l=>!l.isEmpty && decide (l.length≤100000)
theorem neB_of {c:List (List Rat)} (h:neB c=true):∀l ∈ c,l.length≤100000∧l≠[]:=fun l hl=>by
 have h1:=List.all_eq_true.1 h l hl;rw [Bool.and_eq_true] at h1;exact⟨of_decide_eq_true h1.2,ne_of_emp h1.1⟩
theorem turn_bound (c:List (List Rat)):-(c.length:Int)≤turnF c∧turnF c≤c.length:=by
 have h1:=flips_bound 0 (c.map (endsF true));have h2:=flips_bound 0 (c.map (endsF false));rw [List.length_map] at h1 h2;unfold turnF flipsF;omega
def timesU:Nat→List Rat→Int
 | 0,_=>0
 | n+1,p=>if 1<(trimF p).length then turnF (ownF p)+timesU n (commonF p (derivF p)) else 0
def timesB (M:Nat):Nat→List Rat→Bool
 | 0,p=>decide ((trimF p).length≤1)
 | n+1,p=>if 1<(trimF p).length then ownOk M p && neB (ownF p) && smB M p && comOk M p (derivF p) && timesB M n (commonF p (derivF p)) else true
def timesF (p:List Rat):Int:=timesU (p.length+1) p
def timesOk (M:Nat) (p:List Rat):Bool:=timesB M (p.length+1) p
theorem times_p (M:Nat) (hM0:0<M) (hM:M≤5400000000) (vp:Value) (p:List Rat) (hlp:p.length≤100) (w:World) (hp:Pl w vp p) (hok:timesOk M p=true) (z:Int) (hz:timesF p=z):Calls Tryz.prog 28 #[vp] w fun e w'=>e=.returned (.int .i64 z)∧Ext w w':=by
 have HP:=ZZ hp;have HLP:=ZZ hlp;have HM0:=ZZ hM0;have HM:=ZZ hM;have HB0:=ZZ (show timesB M (p.length+1) p=true from hok);have HZ:=ZZ (show timesU (p.length+1) p=z from hz);clear hp hlp hM0 hM hok hz
 go_enter Tryz.func28,Tryz.ntmps28
 go_wp2_with fail
 go_loopg [0,3] (p.length+1) (fun k vb vn wr=>∃(b:List Rat) (a:Int),vn=.int .i64 a∧Hid (k≤p.length+1)∧Hid (b.length≤100)∧Hid (-3000*((p.length:Int)+1 - k)≤a∧a≤3000*((p.length:Int)+1 - k))∧Hid (timesB M k b=true)∧Hid (a+timesU k b=z)∧Hid (Pl wr vb b)∧Hid (Ext w wr))
 case atStart=>exact⟨p,0,rfl,ZZ (Nat.le_refl _),HLP,ZZ (by omega),HB0,ZZ (by rw [Int.zero_add];exact HZ.out),HP,ZZ (ae _)⟩
 case round=>
  obtain⟨b,a,rfl,HK,HBL,HA,HB,HU,HPB,HE⟩:=hrel;rename World=>WR;go_wp2_with fail;refine(deg_q _ b (by have:=HBL.out;omega) _ HPB.out).mono ?_;rintro e wd ⟨rfl,kd⟩;have KD:=ZZ kd;clear kd;obtain⟨m,hm⟩:∃m,(trimF b).length=m:=⟨_,rfl⟩;rw [hm]
  rcases Nat.lt_or_ge 1 m with h1|h1
  ·obtain⟨ko,rfl⟩:∃k,gk=k+1:=⟨gk - 1,by
    rcases Nat.eq_zero_or_pos gk with h|h
    ·subst h
     have h2:decide ((trimF b).length≤1)=true:=HB.out;rw [hm] at h2
     have:=of_decide_eq_true h2
     omega
    ·omega⟩
   have hb:=HB.out;unfold timesB at hb;rw [if_pos (by rw [hm];exact h1)] at hb;have hu:=HU.out;unfold timesU at hu;rw [if_pos (by rw [hm];exact h1)] at hu
   simp only [Bool.and_eq_true] at hb
   obtain⟨⟨⟨⟨o1,o2⟩,o3⟩,o4⟩,o5⟩:=hb;obtain⟨O,hO⟩:∃O,ownF b=O:=⟨_,rfl⟩;have hol:=own_len b;rw [hO] at o2 hu hol;have P1:=ZZ o1;have P2:=ZZ (neB_of o2);have P3:=ZZ (sm_of o3);have P4:=ZZ o4;have P5:=ZZ o5;have HO:=ZZ hO;have HOL:=ZZ (show O.length≤3000 by have:=HBL.out;omega);obtain⟨z1,hz1⟩:∃z,flipsF O (endsF true)=z:=⟨_,rfl⟩;obtain⟨z2,hz2⟩:∃z,flipsF O (endsF false)=z:=⟨_,rfl⟩;have hb1:=flips_bound 0 (O.map (endsF true));have hb2:=flips_bound 0 (O.map (endsF false));rw [show flipsU 0 (O.map (endsF true))=z1 from hz1,List.length_map] at hb1;rw [show flipsU 0 (O.map (endsF false))=z2 from hz2,List.length_map] at hb2;have HZB:=ZZ (show (-3000≤z1 - z2∧z1 - z2≤3000) from by have:=HOL.out;omega)
   have HU2:=ZZ (show a+(z1 - z2)+timesU ko (commonF b (derivF b))=z from by
    rw [←hu];unfold turnF;rw [hz1,hz2];omega)
   have HZ1:=ZZ hz1;have HZ2:=ZZ hz2;have q1:decide ((0:Int)<(m:Int) - 1)=true:=decide_eq_true (by omega);have q1':decide ((1:Int)<(m:Int))=true:=decide_eq_true (by omega);have q3:IntKind.i64.wrap (z1 - z2)=z1 - z2:=by have:=HZB.out;exact IntWalk.i64_in _ (by omega)
   have q4:IntKind.i64.wrap (a+(z1 - z2))=a+(z1 - z2):=by have:=HZB.out;have:=HA.out;have:=HK.out;have:=HLP.out;exact IntWalk.i64_in _ (by omega)
   clear o1 o2 o3 o4 o5 hu hO hol hz1 hz2 hb1 hb2 hm h1;have HPB1:=ZZ (HPB.out.mono KD.out);go_wp2_with fail;refine(own_p M HM0.out HM.out _ b (by have:=HBL.out;omega) _ HPB1.out P1.out).mono ?_;rintro e x1 ⟨t1,rfl,h1,kk1⟩;rw [HO.out] at h1;obtain⟨A1,cap1,e1,-⟩:=id h1;obtain⟨n1,hn1⟩:∃n,O.length=n:=⟨_,rfl⟩;rw [hn1] at e1;subst e1;have H1:=ZZ h1;have X1:=ZZ (al KD.out kk1);clear h1 kk1 hn1;go_wp2_with fail;refine(endsV_c true _).mono ?_;rintro e x2 ⟨rfl,hx2⟩;have SG:=ZZ (hx2 ▸ sgn_ends true x1);have X2:=ZZ (show Ext x1 x2 from by rw [hx2];exact ab _ _);clear hx2;go_wp2_with fail;refine(flips_p _ _ O (endsF true) _ (by have:=HOL.out;omega) P2.out _ (H1.out.mono X2.out) SG.out z1 HZ1.out).mono ?_;rintro e x3 ⟨rfl,kk3⟩;have X3:=ZZ (al X2.out kk3);clear kk3 SG;go_wp2_with fail;refine(endsV_c false _).mono ?_;rintro e x4 ⟨rfl,hx4⟩;have SG:=ZZ (hx4 ▸ sgn_ends false x3);have X4:=ZZ (show Ext x1 x4 from by rw [hx4];exact al X3.out (ab _ _));clear hx4;go_wp2_with fail;refine(flips_p _ _ O (endsF false) _ (by have:=HOL.out;omega) P2.out _ (H1.out.mono X4.out) SG.out z2 HZ2.out).mono ?_;rintro e x5 ⟨rfl,kk5⟩;have X5:=ZZ (al X4.out kk5);clear kk5 SG;have HPB2:=ZZ (HPB.out.mono (al X1.out X5.out));go_wp2_with fail;refine(deriv_p M HM0.out (by have:=HM.out;omega) _ b (by have:=HBL.out;omega) _ HPB2.out P3.out).mono ?_;rintro e x6 ⟨t6,rfl,h6,kk6⟩;have H6:=ZZ h6.pl;have HPB3:=ZZ (HPB2.out.mono kk6);have X6:=ZZ kk6;clear h6 kk6;go_wp2_with fail
   refine(common_p M HM0.out (Nat.le_trans HM.out (by decide)) _ _ b (derivF b) (by have:=HBL.out;omega) (by have h1:=deriv_len b;have:=HBL.out;omega) _ HPB3.out H6.out P4.out).mono ?_;rintro e x7 ⟨t7,rfl,h7,kk7⟩;have H7:=ZZ h7;have X7:=ZZ (al (al X1.out X5.out) (al X6.out kk7));clear h7 kk7;go_wp2_with fail
   go_roundg ko
   case measure=>omega
   case rel=>exact⟨commonF b (derivF b),a+(z1 - z2),rfl,ZZ (by have:=HK.out;omega),ZZ (common_len _ _ _ HBL.out (Nat.le_trans (deriv_len b) HBL.out)),ZZ (by have h1:=HZB.out;have h2:=HA.out;have h3:=HK.out;omega),P5,HU2,H7,ZZ (al HE.out X7.out)⟩
  ·have HZA:=ZZ (show a=z from by
    have h:=HU.out
    cases gk with
    | zero=>
     have h2:a+0=z:=h;omega
    | succ k=>unfold timesU at h;rw [if_neg (by rw [hm];omega)] at h;omega)
   have q1:decide ((0:Int)<(m:Int) - 1)=false:=decide_eq_false (by omega);have q1':decide ((1:Int)<(m:Int))=false:=decide_eq_false (by omega);clear hm h1;go_wp2_with fail;go_ret;exact⟨by rw [←HZA.out];rfl,al HE.out KD.out⟩
end Go.Proofs.YtkoaakefgacokaaGreatDoor
