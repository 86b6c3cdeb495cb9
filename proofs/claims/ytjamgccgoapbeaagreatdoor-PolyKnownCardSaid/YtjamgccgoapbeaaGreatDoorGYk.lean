/- The ends of a span in order; roots in a span. Printed by gen_yk.py. -/
import Derived.Test.YtjamgccgoapbeaaGreatDoorGYj
set_option linter.unusedVariables false
set_option maxRecDepth 100000
set_option maxHeartbeats 64000000
namespace Go.Proofs.YtjamgccgoapbeaaGreatDoor
open Go Go.RowKit
set_option linter.unusedSimpArgs false
section
variable {P:Program} {md:Region.Mode} {ops:Array Oper} {Q:Exit→Act→World→Prop} {S:World→Prop}
end
theorem sp_two {W:World} {x0 x1 x2 y0 y1 y2:Value} {lo hi:Rat} (h:Sp W (.agg #[x0,x1,x2,y0,y1,y2]) lo hi):Nm W (.agg #[x0,x1,x2]) lo∧Nm W (.agg #[y0,y1,y2]) hi:=by
 obtain⟨h1,h2⟩:=sp_ends h;exact⟨h1.out,h2.out⟩
theorem sorted_p (M:Nat) (hM:M≤1099511627776) (v:Value) (x y:Rat) (w:World) (h:Sp w v x y) (bx:Bq M x) (by_:Bq M y):Calls Tryz.prog 70 #[v] w fun e w'=>∃v1 v2,e=.returned (.tuple #[v1,v2])∧Nm w' v1 (aq x y)∧Nm w' v2 (ar x y)∧Ext w w':=by
 obtain⟨s1,A1,k1,ca1,B1,l1,cb1,s2,A2,k2,ca2,B2,l2,cb2,rfl,hx,hy⟩:=h.form;have HM:=ZZ hM;have BX:=ZZ bx;have BY:=ZZ by_;have x1:=ab w (.cells #[.bool s1,.slice A1 k1 ca1,.slice B1 l1 cb1,.bool s2,.slice A2 k2 ca2,.slice B2 l2 cb2] 37);have x2:=ab (w.alloc (.cells #[.bool s1,.slice A1 k1 ca1,.slice B1 l1 cb1,.bool s2,.slice A2 k2 ca2,.slice B2 l2 cb2] 37)) (.cells #[.bool false,.slice none 0 0,.slice none 0 0] 35);have x3:=ab ((w.alloc (.cells #[.bool s1,.slice A1 k1 ca1,.slice B1 l1 cb1,.bool s2,.slice A2 k2 ca2,.slice B2 l2 cb2] 37)).alloc (.cells #[.bool false,.slice none 0 0,.slice none 0 0] 35)) (.cells #[.bool false,.slice none 0 0,.slice none 0 0] 35);have r1:=((ak x2 x3).block _ (lt_of_block (heap_alloc_new w (.cells #[.bool s1,.slice A1 k1 ca1,.slice B1 l1 cb1,.bool s2,.slice A2 k2 ca2,.slice B2 l2 cb2] 37)))).trans (heap_alloc_new w (.cells #[.bool s1,.slice A1 k1 ca1,.slice B1 l1 cb1,.bool s2,.slice A2 k2 ca2,.slice B2 l2 cb2] 37));have r2:=(x3.block _ (lt_of_block (heap_alloc_new (w.alloc (.cells #[.bool s1,.slice A1 k1 ca1,.slice B1 l1 cb1,.bool s2,.slice A2 k2 ca2,.slice B2 l2 cb2] 37)) (.cells #[.bool false,.slice none 0 0,.slice none 0 0] 35)))).trans (heap_alloc_new (w.alloc (.cells #[.bool s1,.slice A1 k1 ca1,.slice B1 l1 cb1,.bool s2,.slice A2 k2 ca2,.slice B2 l2 cb2] 37)) (.cells #[.bool false,.slice none 0 0,.slice none 0 0] 35))
 have r3:=heap_alloc_new ((w.alloc (.cells #[.bool s1,.slice A1 k1 ca1,.slice B1 l1 cb1,.bool s2,.slice A2 k2 ca2,.slice B2 l2 cb2] 37)).alloc (.cells #[.bool false,.slice none 0 0,.slice none 0 0] 35)) (.cells #[.bool false,.slice none 0 0,.slice none 0 0] 35);rw [World.size_alloc,World.size_alloc] at r3;rw [World.size_alloc] at r2;have EW:=ZZ (ak x1 (ak x2 x3));have N1:=ZZ (hx.mono EW.out);have N2:=ZZ (hy.mono EW.out);have R1:=ZZ r1;have R2:=ZZ r2;have R3:=ZZ r3;clear h hx hy hM bx by_ x1 x2 x3 r1 r2 r3
 go_enter Tryz.func70,Tryz.ntmps70
 go_upto_region 1 with (fail)
 generalize ((w.alloc (.cells #[.bool s1,.slice A1 k1 ca1,.slice B1 l1 cb1,.bool s2,.slice A2 k2 ca2,.slice B2 l2 cb2] _)).alloc (.cells #[.bool false,.slice none 0 0,.slice none 0 0] _)).alloc (.cells #[.bool false,.slice none 0 0,.slice none 0 0] _)=W3 at *;obtain⟨gx,hgx⟩:∃g,w.heap.size=g:=⟨_,rfl⟩;obtain⟨g2,hg2⟩:∃g,w.heap.size+1=g:=⟨_,rfl⟩;obtain⟨g3,hg3⟩:∃g,w.heap.size+1+1=g:=⟨_,rfl⟩;have HGD:=ZZ (show g2≠gx∧g3≠gx∧g3≠g2∧w.heap.size≤g2∧w.heap.size≤g3 from ⟨by omega,by omega,by omega,by omega,by omega⟩);rw [hgx] at R1;rw [hg2] at R2;rw [hg3] at R3;rw [hg3,hg2,hgx];clear hgx hg2 hg3;have HRX:=ZZ (show ∀W,Ext W3 W→W.heap[gx]?=some (.cells #[.bool s1,.slice A1 k1 ca1,.slice B1 l1 cb1,.bool s2,.slice A2 k2 ca2,.slice B2 l2 cb2] 37 (0,0)) from fun W k=>(k.block _ (lt_of_block R1.out)).trans R1.out);have Hg2:=ZZ (show ∀W,Ext W3 W→W.heap[g2]?=some (.cells #[.bool false,.slice none 0 0,.slice none 0 0] 35 (0,0)) from fun W k=>(k.block _ (lt_of_block R2.out)).trans R2.out);have Hg3:=ZZ (show ∀W,Ext W3 W→W.heap[g3]?=some (.cells #[.bool false,.slice none 0 0,.slice none 0 0] 35 (0,0)) from fun W k=>(k.block _ (lt_of_block R3.out)).trans R3.out)
 have HC:=ZZ (show ∀W,Ext W3 W→W.cell? ⟨gx,0,none⟩=some (.bool s1)∧W.cell? ⟨gx,1,none⟩=some (.slice A1 k1 ca1)∧W.cell? ⟨gx,2,none⟩=some (.slice B1 l1 cb1)∧W.cell? ⟨gx,3,none⟩=some (.bool s2)∧W.cell? ⟨gx,4,none⟩=some (.slice A2 k2 ca2)∧W.cell? ⟨gx,5,none⟩=some (.slice B2 l2 cb2) from fun W k=>by
  obtain⟨y0,y1,y2,y3,y4,y5,-⟩:=ai (HRX.out W k);exact⟨y0,y1,y2,y3,y4,y5⟩)
 clear R1 R2 R3;have hun:undef=.tuple #[]:=rfl;refine wp_region_noPanic ?_;refine wp_region_held_drew (S:=fun W=>W.cell? ⟨gx,0,none⟩=some (.bool s1)∧W.cell? ⟨gx,1,none⟩=some (.slice A1 k1 ca1)∧W.cell? ⟨gx,2,none⟩=some (.slice B1 l1 cb1)∧W.cell? ⟨gx,3,none⟩=some (.bool s2)∧W.cell? ⟨gx,4,none⟩=some (.slice A2 k2 ca2)∧W.cell? ⟨gx,5,none⟩=some (.slice B2 l2 cb2)) (by kernel_rfl) (HC.out _ (ac _)) (fun hHeld=>?_);refine take_p (i:=0) 4 (v:=?vv0) rfl rfl (by kernel_rfl) (by kernel_rfl) (by kernel_rfl) (fun _ _ _ h=>h) (Or.inl ⟨rfl,?hy0⟩) (by assumption) ?rr0
 case hy0=>(intro w hSw;(try dsimp only at hSw);go_simp;try with_reducible rfl)
 try simp only [Act.put,lyA,lyB,lyC]
 refine take_p (i:=1) 5 (v:=?vv1) rfl rfl (by kernel_rfl) (by kernel_rfl) (by kernel_rfl) (fun _ _ _ h=>h) (Or.inl ⟨rfl,?hy1⟩) (by assumption) ?rr1
 case hy1=>(intro w hSw;(try dsimp only at hSw);go_simp;try with_reducible rfl)
 try simp only [Act.put,lyA,lyB,lyC]
 refine take_p (i:=2) 6 (v:=?vv2) rfl rfl (by kernel_rfl) (by kernel_rfl) (by kernel_rfl) (fun _ _ _ h=>h) (Or.inl ⟨rfl,?hy2⟩) (by assumption) ?rr2
 case hy2=>(intro w hSw;(try dsimp only at hSw);go_simp;try with_reducible rfl)
 try simp only [Act.put,lyA,lyB,lyC]
 refine take_p (i:=3) 7 (v:=?vv3) rfl rfl (by kernel_rfl) (by kernel_rfl) (by kernel_rfl) (fun _ _ _ h=>h) (Or.inl ⟨rfl,?hy3⟩) (by assumption) ?rr3
 case hy3=>(intro w hSw;(try dsimp only at hSw);go_simp;try with_reducible rfl)
 try simp only [Act.put,lyA,lyB,lyC]
 refine take_p (i:=5) 9 (v:=?vv5) rfl rfl (by kernel_rfl) (by kernel_rfl) (by kernel_rfl) (fun _ _ _ h=>h) (Or.inl ⟨rfl,?hy5⟩) (by assumption) ?rr5
 case hy5=>(intro w hSw;(try dsimp only at hSw);go_simp;try with_reducible rfl)
 try simp only [Act.put,lyA,lyB,lyC]
 refine take_p (i:=6) 10 (v:=?vv6) rfl rfl (by kernel_rfl) (by kernel_rfl) (by kernel_rfl) (fun _ _ _ h=>h) (Or.inl ⟨rfl,?hy6⟩) (by assumption) ?rr6
 case hy6=>(intro w hSw;(try dsimp only at hSw);go_simp;try with_reducible rfl)
 try simp only [Act.put,lyA,lyB,lyC]
 refine take_p (i:=7) 11 (v:=?vv7) rfl rfl (by kernel_rfl) (by kernel_rfl) (by kernel_rfl) (fun _ _ _ h=>h) (Or.inl ⟨rfl,?hy7⟩) (by assumption) ?rr7
 case hy7=>(intro w hSw;(try dsimp only at hSw);go_simp;try with_reducible rfl)
 try simp only [Act.put,lyA,lyB,lyC]
 refine take_p (i:=8) 12 (v:=?vv8) rfl rfl (by kernel_rfl) (by kernel_rfl) (by kernel_rfl) (fun _ _ _ h=>h) (Or.inl ⟨rfl,?hy8⟩) (by assumption) ?rr8
 case hy8=>(intro w hSw;(try dsimp only at hSw);go_simp;try with_reducible rfl)
 try simp only [Act.put,lyA,lyB,lyC]
 refine call_p (i:=4) (some 8) rfl rfl (by kernel_rfl) (fun K hK=>?_)
 go_simp
 go_at_call 119
 refine(min_q M (by have:=HM.out;omega) _ _ x y _ (N1.out.mono (ac _)) (N2.out.mono (ac _)) BX.out BY.out).mono ?_;rintro e w5 ⟨v5,rfl,h5,kk5⟩;obtain⟨s5,A5,k5,ca5,B5,l5,cb5,rfl⟩:=h5.form2;have H5:=ZZ h5;have hx1:=ZZ (show Ext W3 w5 from ak (ac _) kk5);clear h5 kk5
 try go_wp2_with fail
 refine hK.out _ _ (HC.out _ hx1.out) (fun hHeld=>?_);clear hK K
 try simp only [Act.put,lyA,lyB,lyC]
 refine call_p (i:=9) (some 13) rfl rfl (by kernel_rfl) (fun K hK=>?_)
 go_simp
 go_at_call 115
 refine(max_q M (by have:=HM.out;omega) _ _ x y _ (N1.out.mono hx1.out) (N2.out.mono hx1.out) BX.out BY.out).mono ?_;rintro e w6 ⟨v6,rfl,h6,kk6⟩;obtain⟨s6,A6,k6,ca6,B6,l6,cb6,rfl⟩:=h6.form2;have H6:=ZZ h6;have H5b:=ZZ (H5.out.mono kk6);have hx2:=ZZ (ak hx1.out kk6);clear h6 kk6
 try go_wp2_with fail
 refine hK.out _ _ (HC.out _ hx2.out) (fun hHeld=>?_);clear hK K
 try simp only [Act.put,lyA,lyB,lyC]
 refine call_p (i:=10) none rfl rfl (by kernel_rfl) (fun K hK=>?st1)
 case st1=>
  have hr1:=(Hg2.out w6 hx2.out);obtain⟨zz0,zz1,zz2,zf0,zf1,zf2⟩:=aj hr1;clear hr1
  go_simp
  have ra:=put3b_other (W:=w6) (g:=g2) (k:=gx) (.bool s5) (.slice A5 k5 ca5) (.slice B5 l5 cb5) (fun e=>HGD.out.1 e.symm);have rb:=put3b_other (W:=w6) (g:=g2) (k:=g3) (.bool s5) (.slice A5 k5 ca5) (.slice B5 l5 cb5) (HGD.out.2.2.1);have rc:=put3b_row (Hg2.out w6 hx2.out) (.bool s5) (.slice A5 k5 ca5) (.slice B5 l5 cb5);have nA:=nm_put3b H5b.out (Hg2.out w6 hx2.out) (.bool s5) (.slice A5 k5 ca5) (.slice B5 l5 cb5);have nB:=nm_put3b H6.out (Hg2.out w6 hx2.out) (.bool s5) (.slice A5 k5 ca5) (.slice B5 l5 cb5);have eA:Ext w (put3at w6 g2 0 (.bool s5) (.slice A5 k5 ca5) (.slice B5 l5 cb5)):=(((ak EW.out hx2.out).setCell HGD.out.2.2.2.1 _).setCell HGD.out.2.2.2.1 _).setCell HGD.out.2.2.2.1 _;have ra:=ra.trans (HRX.out w6 hx2.out);have rb:=rb.trans (Hg3.out w6 hx2.out);generalize hW8:(World.setCell (World.setCell (World.setCell w6 ⟨g2,0,none⟩ (.bool s5)) ⟨g2,1,none⟩ (.slice A5 k5 ca5)) ⟨g2,2,none⟩ (.slice B5 l5 cb5))=W8;have hW8':put3at w6 g2 0 (.bool s5) (.slice A5 k5 ca5) (.slice B5 l5 cb5)=W8:=hW8;rw [hW8'] at ra rb rc nA nB eA;have RA:=ZZ ra;have RB:=ZZ rb;have RC:=ZZ rc;have NA:=ZZ nA;have NB:=ZZ nB;have EA:=ZZ eA;clear ra rb rc nA nB eA hW8 hW8' zz0 zz1 zz2 zf0 zf1 zf2;refine hK.out _ _ (by obtain⟨y0,y1,y2,y3,y4,y5,-⟩:=ai RA.out;exact⟨y0,y1,y2,y3,y4,y5⟩) (fun hHeld=>?_);clear hK K
  try simp only [Act.put,lyA,lyB,lyC]
  refine call_p (i:=11) none rfl rfl (by kernel_rfl) (fun K hK=>?_);obtain⟨zz0,zz1,zz2,zf0,zf1,zf2⟩:=aj RB.out
  go_simp
  have ra:=(put3b_other (W:=W8) (g:=g3) (k:=gx) (.bool s6) (.slice A6 k6 ca6) (.slice B6 l6 cb6) (fun e=>HGD.out.2.1 e.symm)).trans RA.out;have rd:=(put3b_other (W:=W8) (g:=g3) (k:=g2) (.bool s6) (.slice A6 k6 ca6) (.slice B6 l6 cb6) ((fun e=>HGD.out.2.2.1 e.symm))).trans RC.out;have rc:=put3b_row RB.out (.bool s6) (.slice A6 k6 ca6) (.slice B6 l6 cb6);have nA:=nm_put3b NA.out RB.out (.bool s6) (.slice A6 k6 ca6) (.slice B6 l6 cb6);have nB:=nm_put3b NB.out RB.out (.bool s6) (.slice A6 k6 ca6) (.slice B6 l6 cb6);have eA:Ext w (put3at W8 g3 0 (.bool s6) (.slice A6 k6 ca6) (.slice B6 l6 cb6)):=((EA.out.setCell HGD.out.2.2.2.2 _).setCell HGD.out.2.2.2.2 _).setCell HGD.out.2.2.2.2 _;generalize hW9:(World.setCell (World.setCell (World.setCell W8 ⟨g3,0,none⟩ (.bool s6)) ⟨g3,1,none⟩ (.slice A6 k6 ca6)) ⟨g3,2,none⟩ (.slice B6 l6 cb6))=W9;have hW9':put3at W8 g3 0 (.bool s6) (.slice A6 k6 ca6) (.slice B6 l6 cb6)=W9:=hW9;rw [hW9'] at ra rd rc nA nB eA;have RA9:=ZZ ra;have RD9:=ZZ rd;have RC9:=ZZ rc;have NA9:=ZZ nA;have NB9:=ZZ nB;have EA9:=ZZ eA;clear ra rd rc nA nB eA hW9 hW9' zz0 zz1 zz2 zf0 zf1 zf2;refine hK.out _ _ (by obtain⟨y0,y1,y2,y3,y4,y5,-⟩:=ai RA9.out;exact⟨y0,y1,y2,y3,y4,y5⟩) (fun hHeld=>?_);clear hK K
  try simp only [Act.put,lyA,lyB,lyC]
  refine wpAnyH_done (by kernel_rfl) ?_ _;refine NoPanic.normal ?_;obtain⟨a0,a1,a2,-⟩:=aj RD9.out;obtain⟨b0,b1,b2,-⟩:=aj RC9.out;go_wp2_with fail;refine bodyPost_ret (v:=.tuple #[.agg #[.bool s5,.slice A5 k5 ca5,.slice B5 l5 cb5],.agg #[.bool s6,.slice A6 k6 ca6,.slice B6 l6 cb6]]) (by simp [results,Tryz.f70];go_simp) rfl ?_;exact⟨_,_,rfl,NA9.out,NB9.out,EA9.out⟩
end Go.Proofs.YtjamgccgoapbeaaGreatDoor
