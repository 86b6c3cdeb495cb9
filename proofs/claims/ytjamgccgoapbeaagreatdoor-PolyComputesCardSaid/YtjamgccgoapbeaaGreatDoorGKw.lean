/- The walk of PolyComputes. Printed by gen_kw.py. -/
import Derived.Test.YtjamgccgoapbeaaGreatDoorGSn
import Derived.Test.YtjamgccgoapbeaaGreatDoorGZa
import Derived.Deep.DeepCutAuto
set_option linter.unusedVariables false
set_option maxRecDepth 100000
set_option maxHeartbeats 64000000
namespace Go.Proofs.YtjamgccgoapbeaaGreatDoor
open Go Go.RowKit
set_option linter.unusedSimpArgs false
theorem comp_c (v0 v1:Value) (l0 l1:List (List UInt8)) (s0 s1:List UInt8) (w:World) (h0:Stl w v0 l0) (h1:Stl w v1 l1) (m0:s0.length≤maxLen) (m1:s1.length≤maxLen) (ht:Tens w):Calls Tryz.prog 4 #[v0,v1,.agg #[.string ⟨s0.toArray⟩,.string ⟨s1.toArray⟩]] w fun e w'=>e=.returned (.bool true)∧Ext w w':=by
 obtain⟨Q0,c0,rfl,-⟩:=h0.form;obtain⟨Q1,c1,rfl,-⟩:=h1.form;obtain⟨n0,hn0⟩:∃n,l0.length=n:=⟨_,rfl⟩;obtain⟨n1,hn1⟩:∃n,l1.length=n:=⟨_,rfl⟩;rw [hn0] at h0 ⊢;rw [hn1] at h1 ⊢;have HS0:=ZZ h0;have HS1:=ZZ h1;have HT:=ZZ ht;have HN0:=ZZ hn0;have HN1:=ZZ hn1;have HM0:=ZZ m0;have HM1:=ZZ m1;clear h0 h1 ht hn0 hn1 m0 m1;have EA:=ZZ (am (am (ab w (.cells #[.string ⟨s0.toArray⟩,.string ⟨s1.toArray⟩] 55)) (ab _ (.cells #[.string ⟨s0.toArray⟩,.string ⟨s1.toArray⟩] 41))) (ab _ (.cells #[.slice Q0 n0 c0,.slice Q1 n1 c1,(.slice (some ⟨w.heap.size+1,0,none⟩) 2 2)] 54)));have RC0:=ZZ (((am (ab _ (.cells #[.string ⟨s0.toArray⟩,.string ⟨s1.toArray⟩] 41)) (ab _ (.cells #[.slice Q0 n0 c0,.slice Q1 n1 c1,(.slice (some ⟨w.heap.size+1,0,none⟩) 2 2)] 54))).block _ (lt_of_block' (heap_alloc_new w (.cells #[.string ⟨s0.toArray⟩,.string ⟨s1.toArray⟩] 55)))).trans (heap_alloc_new w (.cells #[.string ⟨s0.toArray⟩,.string ⟨s1.toArray⟩] 55)))
 have GL:=ZZ (show Gl (((w.alloc (.cells #[.string ⟨s0.toArray⟩,.string ⟨s1.toArray⟩] 55)).alloc (.cells #[.string ⟨s0.toArray⟩,.string ⟨s1.toArray⟩] 41)).alloc (.cells #[.slice Q0 n0 c0,.slice Q1 n1 c1,(.slice (some ⟨w.heap.size+1,0,none⟩) 2 2)] 54)) (.slice (some ⟨w.heap.size+1+1,0,none⟩) 3 3) [(.slice Q0 n0 c0,l0),(.slice Q1 n1 c1,l1),((.slice (some ⟨w.heap.size+1,0,none⟩) 2 2),[s0,s1])] from by
  obtain⟨x0,x1,x2,-⟩:=aj (heap_alloc_new ((w.alloc (.cells #[.string ⟨s0.toArray⟩,.string ⟨s1.toArray⟩] 55)).alloc (.cells #[.string ⟨s0.toArray⟩,.string ⟨s1.toArray⟩] 41)) (.cells #[.slice Q0 n0 c0,.slice Q1 n1 c1,(.slice (some ⟨w.heap.size+1,0,none⟩) 2 2)] 54))
  simp only [World.size_alloc] at x0 x1 x2
  have hst:Stl ((w.alloc (.cells #[.string ⟨s0.toArray⟩,.string ⟨s1.toArray⟩] 55)).alloc (.cells #[.string ⟨s0.toArray⟩,.string ⟨s1.toArray⟩] 41)) (.slice (some ⟨w.heap.size+1,0,none⟩) 2 2) [s0,s1]:=by
   have h:=stl_two (w.alloc (.cells #[.string ⟨s0.toArray⟩,.string ⟨s1.toArray⟩] 55)) HM0.out HM1.out;rw [World.size_alloc] at h;exact h
  refine⟨_,3,rfl,fun i y hy=>?_⟩
  match i,hy with
  | 0,hy=>obtain rfl:=Option.some.inj hy;exact⟨x0,HS0.out.mono EA.out⟩
  | 1,hy=>obtain rfl:=Option.some.inj hy;exact⟨x1,HS1.out.mono EA.out⟩
  | 2,hy=>obtain rfl:=Option.some.inj hy;exact⟨x2,hst.mono (ab _ _)⟩)
 go_enter Tryz.func4,Tryz.ntmps4
 go_wp2_with fail;generalize (((w.alloc (.cells #[.string ⟨s0.toArray⟩,.string ⟨s1.toArray⟩] 55)).alloc (.cells #[.string ⟨s0.toArray⟩,.string ⟨s1.toArray⟩] 41)).alloc (.cells #[.slice Q0 n0 c0,.slice Q1 n1 c1,(.slice (some ⟨w.heap.size+1,0,none⟩) 2 2)] 54))=W0 at *
 generalize hwg:w.heap.size=g0 at *;refine(great_p _ [(.slice Q0 n0 c0,l0),(.slice Q1 n1 c1,l1),(.slice (some ⟨g0+1,0,none⟩) 2 2,[s0,s1])] (by simp) _ GL.out).mono ?_;rintro e w1 ⟨rfl,kk1⟩;have K1:=ZZ (am EA.out kk1);have RC1:=ZZ ((kk1.block _ (lt_of_block' RC0.out)).trans RC0.out);obtain⟨d,hd⟩:∃d,greatF [(.slice Q0 n0 c0,l0),(.slice Q1 n1 c1,l1),(.slice (some ⟨g0+1,0,none⟩) 2 2,[s0,s1])]=d:=⟨_,rfl⟩;rw [hd];have HD:=ZZ hd;clear hd kk1 RC0 hwg
 cases d with
 | true=>
  go_wp2_with fail;refine(awake_p _ (HT.out.mono K1.out)).mono ?_
  rintro e w2 ⟨rfl,kk2⟩;have K2:=ZZ (am K1.out kk2);clear kk2;go_wp2_with fail;go_ret;exact⟨rfl,K2.out⟩
 | false=>
  have HL0:=ZZ (show l0.length≤60 from great_len HD.out (.slice Q0 n0 c0,l0) (by simp));have HL1:=ZZ (show l1.length≤60 from great_len HD.out (.slice Q1 n1 c1,l1) (by simp));obtain⟨a,ha⟩:∃a,listF l0=a:=⟨_,rfl⟩;obtain⟨b,hb⟩:∃a,listF l1=a:=⟨_,rfl⟩;have HLA:=ZZ ha;have HLB:=ZZ hb;clear ha hb HD GL EA;go_wp2_with fail;refine(list_nx _ l0 _ (HS0.out.mono K1.out) HL0.out).mono ?_;rintro e w2 ⟨va,xa,rfl,ha,ra,kk2⟩;rw [HLA.out] at ha ra;have PA:=ZZ ha;have RA:=ZZ ra;have K2:=ZZ (am K1.out kk2);have RC2:=ZZ ((kk2.block _ (lt_of_block' RC1.out)).trans RC1.out);clear ha ra kk2 K1 RC1;go_wp2_with fail;refine(list_nx _ l1 _ (HS1.out.mono K2.out) HL1.out).mono ?_;rintro e w3 ⟨vb,xb,rfl,hb,rb,kk3⟩;rw [HLB.out] at hb rb
  replace PA:=ZZ (PA.out.mono kk3)
  replace RA:=ZZ (RA.out.mono kk3)
  have PB:=ZZ hb;have RB:=ZZ rb;have K3:=ZZ (am K2.out kk3);have RC3:=ZZ ((kk3.block _ (lt_of_block' RC2.out)).trans RC2.out);have EC3:=ZZ (ab w3 (.cells #[.string ⟨s0.toArray⟩,.string ⟨s1.toArray⟩] 41));have ST3:=ZZ (stl_two w3 HM0.out HM1.out);clear hb rb kk3 K2 RC2;have hc0:w3.cell? ⟨g0,0,none⟩=some (.string ⟨s0.toArray⟩):=by rw [cell_of_row _ _ _ _ _ _ RC3.out];rfl
  have hc1:w3.cell? ⟨g0,1,none⟩=some (.string ⟨s1.toArray⟩):=by rw [cell_of_row _ _ _ _ _ _ RC3.out];rfl
  go_wp2_with fail;refine(list_nx _ [s0,s1] _ ST3.out (show 2≤60 by decide)).mono ?_
  rintro e W6 ⟨vc,xc,rfl,hc,rc,kk4⟩
  replace kk4:=am EC3.out kk4
  replace PA:=ZZ (PA.out.mono kk4)
  replace RA:=ZZ (RA.out.mono kk4)
  replace PB:=ZZ (PB.out.mono kk4)
  replace RB:=ZZ (RB.out.mono kk4)
  have K6:=ZZ (am K3.out kk4);obtain⟨x,y,hxy⟩:∃x y,listF [s0,s1]=[x,y]:=⟨_,_,rfl⟩;rw [hxy] at hc rc;have BX:=ZZ (show Bq 4001 x from hc.2.2 x (by simp));have BY:=ZZ (show Bq 4001 y from hc.2.2 y (by simp));obtain⟨AC,cC,eC,-⟩:=id hc.1
  replace eC:vc=.slice AC 2 cC:=eC
  subst eC;obtain⟨AR,cR,eR,-⟩:=id rc
  replace eR:xc=.slice AR 2 cR:=eR
  subst eR;obtain⟨bn,on,rfl,t1,t2⟩:=pl_two2 hc.1;obtain⟨bm,om,rfl,t3,t4⟩:=plr_two2 rc;obtain⟨s1,A1,k1,ca1,B1,l1,cb1,d10,d11,d12,nn1⟩:=t1;obtain⟨s2,A2,k2,ca2,B2,l2,cb2,d20,d21,d22,nn2⟩:=t2;obtain⟨s3,A3,k3,ca3,B3,l3,cb3,d30,d31,d32,nn3⟩:=t3;obtain⟨s4,A4,k4,ca4,B4,l4,cb4,d40,d41,d42,nn4⟩:=t4;have HCa:=ZZ (show ∀W,Ext W6 W→W.cell? ⟨bn,on,none⟩=some (.bool s1)∧W.cell? ⟨bn,on+1,none⟩=some (.slice A1 k1 ca1)∧W.cell? ⟨bn,on+2,none⟩=some (.slice B1 l1 cb1)∧W.cell? ⟨bn,on+3,none⟩=some (.bool s2)∧W.cell? ⟨bn,on+4,none⟩=some (.slice A2 k2 ca2)∧W.cell? ⟨bn,on+5,none⟩=some (.slice B2 l2 cb2)∧W.cell? ⟨bm,om,none⟩=some (.int .i64 s3)∧W.cell? ⟨bm,om+1,none⟩=some (.slice A3 k3 ca3)∧W.cell? ⟨bm,om+2,none⟩=some (.slice B3 l3 cb3)∧W.cell? ⟨bm,om+3,none⟩=some (.int .i64 s4)∧W.cell? ⟨bm,om+4,none⟩=some (.slice A4 k4 ca4)∧W.cell? ⟨bm,om+5,none⟩=some (.slice B4 l4 cb4) from fun W k=>⟨ar k d10,ar k d11,ar k d12,ar k d20,ar k d21,ar k d22,ar k d30,ar k d31,ar k d32,ar k d40,ar k d41,ar k d42⟩);have NX0:=ZZ nn1;have MX0:=ZZ nn3;have SPN:=ZZ (show Sp W6 (.agg #[.bool s1,.slice A1 k1 ca1,.slice B1 l1 cb1,.bool s2,.slice A2 k2 ca2,.slice B2 l2 cb2]) x y from ⟨_,_,_,_,_,_,rfl,nn1,nn2⟩);have SPM:=ZZ (show SpR W6 (.agg #[.int .i64 s3,.slice A3 k3 ca3,.slice B3 l3 cb3,.int .i64 s4,.slice A4 k4 ca4,.slice B4 l4 cb4]) x y from ⟨_,_,_,_,_,_,rfl,nn3,nn4⟩);have BEV:=ZZ (bq_evx (K:=480181) PA.out BX.out (by decide));have BES:=ZZ (bq_evs (K:=480181) (a:=(x,y)) PA.out ⟨BX.out,BY.out⟩ (by decide))
  clear hc rc hxy kk4 K3 RC3 EC3 ST3 hc0 hc1 d10 d11 d12 d20 d21 d22 d30 d31 d32 d40 d41 d42 nn1 nn2 nn3 nn4
  go_upto_region 6 with (fail)
  go_cut [13,14] (fun p1 p2 wx=>BoxS wx p1 x y∧BoxSR wx p2 x y∧Hid (Ext W6 wx))
  case first=>
   refine wp_region_noPanic ?_;refine wp_region_held_drew (S:=fun W=>W.cell? ⟨bn,on,none⟩=some (.bool s1)∧W.cell? ⟨bn,on+1,none⟩=some (.slice A1 k1 ca1)∧W.cell? ⟨bn,on+2,none⟩=some (.slice B1 l1 cb1)∧W.cell? ⟨bn,on+3,none⟩=some (.bool s2)∧W.cell? ⟨bn,on+4,none⟩=some (.slice A2 k2 ca2)∧W.cell? ⟨bn,on+5,none⟩=some (.slice B2 l2 cb2)∧W.cell? ⟨bm,om,none⟩=some (.int .i64 s3)∧W.cell? ⟨bm,om+1,none⟩=some (.slice A3 k3 ca3)∧W.cell? ⟨bm,om+2,none⟩=some (.slice B3 l3 cb3)∧W.cell? ⟨bm,om+3,none⟩=some (.int .i64 s4)∧W.cell? ⟨bm,om+4,none⟩=some (.slice A4 k4 ca4)∧W.cell? ⟨bm,om+5,none⟩=some (.slice B4 l4 cb4)) (by kernel_rfl) (HCa.out _ (ac _)) (fun hHeld=>?_);refine take_a 0 44 ?_;refine take_a 3 47 ?_;refine take_a 7 51 ?_;refine take_a 10 54 ?_;refine take_a 1 45 ?_;refine take_a 4 48 ?_;refine take_a 8 52 ?_;refine take_a 11 55 ?_;refine take_a 2 46 ?_;refine take_a 5 49 ?_;refine take_a 9 53 ?_;refine take_a 12 56 ?_;refine take_a 6 50 ?_;refine take_a 13 57 ?_
   refine free_q (J:=fun D y W=>Hid (Ext W6 W)∧Fc (D 14) (Nw W6 W (y 14) (.cells #[.bool false,.slice none 0 0,.slice none 0 0,.bool false,.slice none 0 0,.slice none 0 0] 37))∧Fc (D 15) (Nw W6 W (y 15) (.cells #[.int .i64 0,.slice none 0 0,.slice none 0 0,.int .i64 0,.slice none 0 0,.slice none 0 0] 64))∧Fc (D 14 && D 15) (y 14≠y 15)) [(14,13),(15,14)] 2 rfl (by kernel_rfl) (by kernel_rfl) (by assumption) (fun D y hD=>⟨ZZ (ac _),Fc.off (hD 14 (by simp)),Fc.off (hD 15 (by simp)),Fc.off (by rw [hD 14 (by simp)];rfl)⟩) (met_cons ?mta14 (met_cons ?mta15 met_nil)) (fun D y w hD hHeld hJ=>?fina)
   case mta14=>
    refine Met.mq [] 13 rfl rfl (by kernel_rfl) (by kernel_rfl) (fun D y w hS hJ hD hd K hK=>?_);obtain⟨he,f14,f15,fne⟩:=hJ
    simp only [putsL,allOf,List.map_cons,List.map_nil,List.foldl_cons,List.foldl_nil,Act.put,List.setIfInBounds_toArray,List.set_cons_zero,List.set_cons_succ]
    go_simp
    refine hK.out (.pointer (some ⟨w.heap.size,0,none⟩)) _ _ (by kernel_rfl) (HCa.out _ (am he.out (ab _ _))) (fun hHeld=>?_);exact⟨ZZ (am he.out (ab _ _)),Fc.on (Nw.new he.out _),f15.map (·.mono (ab _ _)),fun e=>(Nw.ne (f15.get (Bool.and_eq_true_iff.1 e).2)).symm⟩
   case mta15=>
    refine Met.mq [] 14 rfl rfl (by kernel_rfl) (by kernel_rfl) (fun D y w hS hJ hD hd K hK=>?_);obtain⟨he,f14,f15,fne⟩:=hJ
    simp only [putsL,allOf,List.map_cons,List.map_nil,List.foldl_cons,List.foldl_nil,Act.put,List.setIfInBounds_toArray,List.set_cons_zero,List.set_cons_succ]
    go_simp
    refine hK.out (.pointer (some ⟨w.heap.size,0,none⟩)) _ _ (by kernel_rfl) (HCa.out _ (am he.out (ab _ _))) (fun hHeld=>?_);exact⟨ZZ (am he.out (ab _ _)),f14.map (·.mono (ab _ _)),Fc.on (Nw.new he.out _),fun e=>Nw.ne (f14.get (Bool.and_eq_true_iff.1 e).1)⟩
   case fina=>
    obtain⟨he,f14,f15,fne⟩:=hJ;have n14:=f14.get (hD 14 (by simp));have n15:=f15.get (hD 15 (by simp));have nne:=fne.get (by rw [hD 14 (by simp),hD 15 (by simp)];rfl)
    simp only [putsL,allOf,List.map_cons,List.map_nil,List.foldl_cons,List.foldl_nil,Act.put,List.setIfInBounds_toArray,List.set_cons_zero,List.set_cons_succ]
    clear f14 f15 fne hD;generalize y 14=z14 at n14 nne ⊢;generalize y 15=z15 at n15 nne ⊢;obtain⟨ga,rfl,ha,ra⟩:=n14;obtain⟨gb,rfl,hb,rb⟩:=n15;have hne:=ZZ (show ga≠gb from fun e=>nne (by rw [e]));have RA:=ZZ ra;have RB:=ZZ rb;have GA:=ZZ ha;have GB:=ZZ hb;clear ra rb ha hb nne y;refine call_p (i:=16) none rfl rfl (by kernel_rfl) (fun K hK=>?_);obtain⟨zz0,zz1,zz2,zz3,zz4,zz5,zf0,zf1,zf2,zf3,zf4,zf5⟩:=ai RA.out
    go_simp
    clear zz0 zz1 zz2 zz3 zz4 zz5 zf0 zf1 zf2 zf3 zf4 zf5;generalize hWP:World.setCell (World.setCell (World.setCell (World.setCell (World.setCell (World.setCell (w) ⟨ga,0,none⟩ (.bool s1)) ⟨ga,1,none⟩ (.slice A1 k1 ca1)) ⟨ga,2,none⟩ (.slice B1 l1 cb1)) ⟨ga,3,none⟩ (.bool s2)) ⟨ga,4,none⟩ (.slice A2 k2 ca2)) ⟨ga,5,none⟩ (.slice B2 l2 cb2)=X1;have hPP:put6 w ga (.bool s1) (.slice A1 k1 ca1) (.slice B1 l1 cb1) (.bool s2) (.slice A2 k2 ca2) (.slice B2 l2 cb2)=X1:=hWP;clear hWP;have RA1:=ZZ (ag RA.out (.bool s1) (.slice A1 k1 ca1) (.slice B1 l1 cb1) (.bool s2) (.slice A2 k2 ca2) (.slice B2 l2 cb2));have RB1:=ZZ (ah RB.out (hne.out.symm) (.bool s1) (.slice A1 k1 ca1) (.slice B1 l1 cb1) (.bool s2) (.slice A2 k2 ca2) (.slice B2 l2 cb2));have EX1:=ZZ (af he.out GA.out (.bool s1) (.slice A1 k1 ca1) (.slice B1 l1 cb1) (.bool s2) (.slice A2 k2 ca2) (.slice B2 l2 cb2));rw [hPP] at RA1 RB1 EX1;clear hPP;refine hK.out _ _ (HCa.out _ EX1.out) (fun hHeld=>?_);clear hK K
    try simp only [Act.put,lyA,lyB,lyC]
    refine call_p (i:=17) none rfl rfl (by kernel_rfl) (fun K hK=>?_);obtain⟨zz0,zz1,zz2,zz3,zz4,zz5,zf0,zf1,zf2,zf3,zf4,zf5⟩:=ai RB1.out
    go_simp
    clear zz0 zz1 zz2 zz3 zz4 zz5 zf0 zf1 zf2 zf3 zf4 zf5;generalize hWP:World.setCell (World.setCell (World.setCell (World.setCell (World.setCell (World.setCell (X1) ⟨gb,0,none⟩ (.int .i64 s3)) ⟨gb,1,none⟩ (.slice A3 k3 ca3)) ⟨gb,2,none⟩ (.slice B3 l3 cb3)) ⟨gb,3,none⟩ (.int .i64 s4)) ⟨gb,4,none⟩ (.slice A4 k4 ca4)) ⟨gb,5,none⟩ (.slice B4 l4 cb4)=X2;have hPP:put6 X1 gb (.int .i64 s3) (.slice A3 k3 ca3) (.slice B3 l3 cb3) (.int .i64 s4) (.slice A4 k4 ca4) (.slice B4 l4 cb4)=X2:=hWP;clear hWP;have RB2:=ZZ (ag RB1.out (.int .i64 s3) (.slice A3 k3 ca3) (.slice B3 l3 cb3) (.int .i64 s4) (.slice A4 k4 ca4) (.slice B4 l4 cb4));have RA2:=ZZ (ah RA1.out (hne.out) (.int .i64 s3) (.slice A3 k3 ca3) (.slice B3 l3 cb3) (.int .i64 s4) (.slice A4 k4 ca4) (.slice B4 l4 cb4));have EX2:=ZZ (af EX1.out GB.out (.int .i64 s3) (.slice A3 k3 ca3) (.slice B3 l3 cb3) (.int .i64 s4) (.slice A4 k4 ca4) (.slice B4 l4 cb4));rw [hPP] at RB2 RA2 EX2;clear hPP;refine hK.out _ _ (HCa.out _ EX2.out) (fun hHeld=>?_);clear hK K
    try simp only [Act.put,lyA,lyB,lyC]
    refine wpAnyH_done (by kernel_rfl) ?_ _;refine NoPanic.normal ?_;have hb1:=ZZ (show BoxS X2 (.pointer (some ⟨ga,0,none⟩)) x y from ⟨ga,s1,A1,k1,ca1,B1,l1,cb1,s2,A2,k2,ca2,B2,l2,cb2,rfl,RA2.out,(SPN.out.mono EX2.out)⟩);have hb2:=ZZ (show BoxSR X2 (.pointer (some ⟨gb,0,none⟩)) x y from ⟨gb,s3,A3,k3,ca3,B3,l3,cb3,s4,A4,k4,ca4,B4,l4,cb4,rfl,RB2.out,(SPM.out.mono EX2.out)⟩);go_wp2_with fail;go_meet;exact⟨hb1.out,hb2.out,EX2⟩
  case rest=>
   obtain⟨⟨ga,s5,A5,k5,ca5,B5,l5,cb5,s6,A6,k6,ca6,B6,l6,cb6,rfl,rs,ns⟩,⟨gb,s7,A7,k7,ca7,B7,l7,cb7,s8,A8,k8,ca8,B8,l8,cb8,rfl,rt,nt⟩,HE7⟩:=hcut;rename World=>W7;have RGA:=ZZ rs;have RGB:=ZZ rt;have SN7:=ZZ ns;have SM7:=ZZ nt
   replace PA:=ZZ (PA.out.mono HE7.out)
   replace RA:=ZZ (RA.out.mono HE7.out)
   replace PB:=ZZ (PB.out.mono HE7.out)
   replace RB:=ZZ (RB.out.mono HE7.out)
   have K7:=ZZ (am K6.out HE7.out)
   replace HT:=ZZ (HT.out.mono K7.out)
   clear rs rt ns nt K6;obtain⟨da,hda⟩:∃d,((trimF a).length:Int) - 1=d:=⟨_,rfl⟩;have HDA:=ZZ hda;clear hda
   go_upto_region 7 with (fail)
   go_cut [100] (fun r wx=>r=.bool false∧Hid (Ext W7 wx))
   case first=>
    have EB:=ZZ (ae W7);go_wp2_with fail;refine(trim_x (N:=60) (M:=4001) (by decide) _ _ _ (PA.out.mono EB.out)).mono ?_;rintro e w71 ⟨vt1,rfl,hq,kq⟩
    replace EB:=ZZ (am EB.out kq)
    have Ht1:=ZZ hq;clear kq hq;go_wp2_with fail;refine(trim_n _ a (by have:=PA.out.2.1;omega) _ (RA.out.mono EB.out)).mono ?_;rintro e w72 ⟨vt2,rfl,hq,kq⟩
    replace EB:=ZZ (am EB.out kq)
    replace Ht1:=ZZ (Ht1.out.mono kq)
    have Ht2:=ZZ hq;clear kq hq;go_wp2_with fail;refine(same_x (N:=60) (M:=4001) (by decide) (by decide) _ _ (trimF a) _ Ht1.out Ht2.out (HT.out.mono EB.out)).mono ?_;rintro e w73 ⟨rfl,kq⟩
    replace EB:=ZZ (am EB.out kq)
    replace Ht1:=ZZ (Ht1.out.mono kq)
    replace Ht2:=ZZ (Ht2.out.mono kq)
    clear kq;clear Ht1 Ht2;go_wp2_with fail;refine(deg_x (N:=60) (M:=4001) (by decide) _ _ _ (PA.out.mono EB.out) da HDA.out).mono ?_;rintro e w74 ⟨rfl,kq⟩
    replace EB:=ZZ (am EB.out kq)
    clear kq;go_wp2_with fail;refine(deg_n _ a (by have:=PA.out.2.1;omega) _ (RA.out.mono EB.out) da HDA.out).mono ?_;rintro e w75 ⟨rfl,kq⟩
    replace EB:=ZZ (am EB.out kq)
    clear kq;go_wp2_with fail;refine(add_x (N1:=60) (N2:=60) (M:=4001) (N:=60) (K:=8003) (by decide) (by decide) (by decide) (by decide) (by decide) (by decide) _ _ _ _ _ (PA.out.mono EB.out) (PB.out.mono EB.out)).mono ?_;rintro e w76 ⟨vt3,rfl,hq,kq⟩
    replace EB:=ZZ (am EB.out kq)
    have Ht3:=ZZ hq;clear kq hq;go_wp2_with fail;refine(padd_n 4001 (by decide) (by decide) _ _ a b (ref_len PA.out (by decide)) (ref_len PB.out (by decide)) _ (RA.out.mono EB.out) (RB.out.mono EB.out) PA.out.2.2 PB.out.2.2).mono ?_;rintro e w77 ⟨vt4,rfl,hq,kq⟩
    replace EB:=ZZ (am EB.out kq)
    replace Ht3:=ZZ (Ht3.out.mono kq)
    have Ht4:=ZZ hq;clear kq hq;go_wp2_with fail;refine(same_x (N:=60) (M:=8003) (by decide) (by decide) _ _ (addF a b) _ Ht3.out Ht4.out (HT.out.mono EB.out)).mono ?_;rintro e w78 ⟨rfl,kq⟩
    replace EB:=ZZ (am EB.out kq)
    replace Ht3:=ZZ (Ht3.out.mono kq)
    replace Ht4:=ZZ (Ht4.out.mono kq)
    clear kq;clear Ht3 Ht4;go_wp2_with fail;refine(sub_y (N:=60) (M:=4001) (K:=8133) (by decide) (by decide) (by decide) (by decide) _ _ _ _ _ (PA.out.mono EB.out) (PB.out.mono EB.out)).mono ?_;rintro e w79 ⟨vt5,rfl,hq,kq⟩
    replace EB:=ZZ (am EB.out kq)
    have Ht5:=ZZ hq;clear kq hq;go_wp2_with fail;refine(psub_n 4001 (by decide) (by decide) _ _ a b (ref_len PA.out (by decide)) (ref_len PB.out (by decide)) _ (RA.out.mono EB.out) (RB.out.mono EB.out) PA.out.2.2 PB.out.2.2).mono ?_;rintro e w80 ⟨vt6,rfl,hq,kq⟩
    replace EB:=ZZ (am EB.out kq)
    replace Ht5:=ZZ (Ht5.out.mono kq)
    have Ht6:=ZZ hq;clear kq hq;go_wp2_with fail;refine(same_x (N:=60) (M:=8133) (by decide) (by decide) _ _ (subF a b) _ Ht5.out Ht6.out (HT.out.mono EB.out)).mono ?_;rintro e w81 ⟨rfl,kq⟩
    replace EB:=ZZ (am EB.out kq)
    replace Ht5:=ZZ (Ht5.out.mono kq)
    replace Ht6:=ZZ (Ht6.out.mono kq)
    clear kq;clear Ht5 Ht6;go_wp2_with fail;refine(mul_x (N1:=60) (N2:=60) (M:=4001) (N:=120) (K:=480181) (by decide) (by decide) (by decide) (by decide) (by decide) (by decide) _ _ _ _ _ (PA.out.mono EB.out) (PB.out.mono EB.out)).mono ?_;rintro e w82 ⟨vt7,rfl,hq,kq⟩
    replace EB:=ZZ (am EB.out kq)
    have Ht7:=ZZ hq;clear kq hq;go_wp2_with fail;refine(pmul_n 4001 (by decide) _ _ a b (ref_len PA.out (by decide)) (ref_len PB.out (by decide)) (Nat.le_trans (ref_mul (K:=480181) PA.out (by decide)) (by decide)) (by rcases Nat.eq_zero_or_pos a.length with h|h;exact .inr h;exact .inl (by omega)) _ (RA.out.mono EB.out) (RB.out.mono EB.out) PA.out.2.2 PB.out.2.2).mono ?_;rintro e w83 ⟨vt8,rfl,hq,kq⟩
    replace EB:=ZZ (am EB.out kq)
    replace Ht7:=ZZ (Ht7.out.mono kq)
    have Ht8:=ZZ hq;clear kq hq;go_wp2_with fail;refine(same_x (N:=120) (M:=480181) (by decide) (by decide) _ _ (mulF a b) _ Ht7.out Ht8.out (HT.out.mono EB.out)).mono ?_;rintro e w84 ⟨rfl,kq⟩
    replace EB:=ZZ (am EB.out kq)
    replace Ht7:=ZZ (Ht7.out.mono kq)
    replace Ht8:=ZZ (Ht8.out.mono kq)
    clear kq;clear Ht7 Ht8;go_wp2_with fail;go_meet;exact⟨rfl,EB⟩
   case rest=>
    obtain⟨rfl,EB⟩:=hcut;rename World=>W9;go_wp2_with fail
    have HCc:=ZZ (show ∀W,Ext W9 W→W.cell? ⟨bn,on,none⟩=some (.bool s1)∧W.cell? ⟨bn,on+1,none⟩=some (.slice A1 k1 ca1)∧W.cell? ⟨bn,on+2,none⟩=some (.slice B1 l1 cb1)∧W.cell? ⟨bm,om,none⟩=some (.int .i64 s3)∧W.cell? ⟨bm,om+1,none⟩=some (.slice A3 k3 ca3)∧W.cell? ⟨bm,om+2,none⟩=some (.slice B3 l3 cb3)∧W.cell? ⟨ga,0,none⟩=some (.bool s5)∧W.cell? ⟨ga,1,none⟩=some (.slice A5 k5 ca5)∧W.cell? ⟨ga,2,none⟩=some (.slice B5 l5 cb5)∧W.cell? ⟨ga,3,none⟩=some (.bool s6)∧W.cell? ⟨ga,4,none⟩=some (.slice A6 k6 ca6)∧W.cell? ⟨ga,5,none⟩=some (.slice B6 l6 cb6)∧W.cell? ⟨gb,0,none⟩=some (.int .i64 s7)∧W.cell? ⟨gb,1,none⟩=some (.slice A7 k7 ca7)∧W.cell? ⟨gb,2,none⟩=some (.slice B7 l7 cb7)∧W.cell? ⟨gb,3,none⟩=some (.int .i64 s8)∧W.cell? ⟨gb,4,none⟩=some (.slice A8 k8 ca8)∧W.cell? ⟨gb,5,none⟩=some (.slice B8 l8 cb8) from fun W k=>by
     have k2:=am HE7.out (am EB.out k);have k3:=am EB.out k;obtain⟨y0,y1,y2,-,-,-,z0,z1,z2,-⟩:=HCa.out W k2;obtain⟨t0,t1,t2,t3,t4,t5,-⟩:=ai ((k3.block _ (lt_of_block' RGA.out)).trans RGA.out);obtain⟨r0,r1,r2,r3,r4,r5,-⟩:=ai ((k3.block _ (lt_of_block' RGB.out)).trans RGB.out);exact⟨y0,y1,y2,z0,z1,z2,t0,t1,t2,t3,t4,t5,r0,r1,r2,r3,r4,r5⟩)
    have NX:=ZZ (NX0.out.mono (am HE7.out EB.out));have MX:=ZZ (MX0.out.mono (am HE7.out EB.out));have SN9:=ZZ (SN7.out.mono EB.out);have SM9:=ZZ (SM7.out.mono EB.out);have hun:undef=.tuple #[]:=rfl;clear RGA RGB SN7 SM7 NX0 MX0 HCa
    go_upto_region 9 with (fail)
    refine wp_region_noPanic ?_;refine wp_region_held_drew (S:=fun W=>W.cell? ⟨bn,on,none⟩=some (.bool s1)∧W.cell? ⟨bn,on+1,none⟩=some (.slice A1 k1 ca1)∧W.cell? ⟨bn,on+2,none⟩=some (.slice B1 l1 cb1)∧W.cell? ⟨bm,om,none⟩=some (.int .i64 s3)∧W.cell? ⟨bm,om+1,none⟩=some (.slice A3 k3 ca3)∧W.cell? ⟨bm,om+2,none⟩=some (.slice B3 l3 cb3)∧W.cell? ⟨ga,0,none⟩=some (.bool s5)∧W.cell? ⟨ga,1,none⟩=some (.slice A5 k5 ca5)∧W.cell? ⟨ga,2,none⟩=some (.slice B5 l5 cb5)∧W.cell? ⟨ga,3,none⟩=some (.bool s6)∧W.cell? ⟨ga,4,none⟩=some (.slice A6 k6 ca6)∧W.cell? ⟨ga,5,none⟩=some (.slice B6 l6 cb6)∧W.cell? ⟨gb,0,none⟩=some (.int .i64 s7)∧W.cell? ⟨gb,1,none⟩=some (.slice A7 k7 ca7)∧W.cell? ⟨gb,2,none⟩=some (.slice B7 l7 cb7)∧W.cell? ⟨gb,3,none⟩=some (.int .i64 s8)∧W.cell? ⟨gb,4,none⟩=some (.slice A8 k8 ca8)∧W.cell? ⟨gb,5,none⟩=some (.slice B8 l8 cb8)) (by kernel_rfl) (HCc.out _ (ac _)) (fun hHeld=>?_);refine take_a 0 101 ?_;refine take_a 1 102 ?_;refine take_a 2 103 ?_;refine take_a 3 104 ?_;refine take_a 5 106 ?_;refine take_a 6 107 ?_;refine take_a 7 108 ?_;refine take_a 8 109 ?_;refine call_p (i:=4) (some 105) rfl rfl (by kernel_rfl) (fun K hK=>?_)
    go_simp
    go_at_call 34
    refine(scale_x (N:=60) (M:=4001) (K:=8002) (by decide) (by decide) (by decide) _ _ a x _ (PA.out.mono (am EB.out (ac W9))) (NX.out.mono (ac W9)) BX.out).mono ?_;rintro e r4 ⟨vv94,rfl,hv,kv⟩;have KR4:=ZZ (show Ext W9 r4 from am (ac W9) kv);have N1:=ZZ hv;clear kv hv
    try go_wp2_with fail
    refine hK.out _ _ (HCc.out _ KR4.out) (fun hHeld=>?_);clear hK K
    try simp only [Act.put,lyA,lyB,lyC]
    refine call_p (i:=9) (some 110) rfl rfl (by kernel_rfl) (fun K hK=>?_)
    go_simp
    go_at_call 35
    refine(pscale_n 4001 (by decide) (by decide) _ _ a x (ref_len PA.out (by decide)) _ (RA.out.mono (am EB.out KR4.out)) (MX.out.mono KR4.out) PA.out.2.2 BX.out).mono ?_;rintro e r9 ⟨vv99,rfl,hv,kv⟩;have KR9:=ZZ (show Ext W9 r9 from am KR4.out kv)
    replace N1:=ZZ (N1.out.mono kv)
    have N2:=ZZ hv;clear kv hv
    try go_wp2_with fail
    refine hK.out _ _ (HCc.out _ KR9.out) (fun hHeld=>?_);clear hK K
    try simp only [Act.put,lyA,lyB,lyC]
    refine call_p (i:=10) (some 111) rfl rfl (by kernel_rfl) (fun K hK=>?_)
    go_simp
    go_at_call 23
    refine(same_x (N:=60) (M:=8002) (by decide) (by decide) _ _ (scaleF a x) _ N1.out N2.out (HT.out.mono (am EB.out KR9.out))).mono ?_;rintro e r10 ⟨rfl,kv⟩;have KR10:=ZZ (show Ext W9 r10 from am KR9.out kv)
    replace N1:=ZZ (N1.out.mono kv)
    replace N2:=ZZ (N2.out.mono kv)
    clear kv N1 N2
    try go_wp2_with fail
    refine hK.out _ _ (HCc.out _ KR10.out) (fun hHeld=>?_);clear hK K
    try simp only [Act.put,lyA,lyB,lyC]
    refine take_a 11 112 ?_;refine take_a 12 113 ?_;refine take_a 14 115 ?_;refine call_p (i:=13) (some 114) rfl rfl (by kernel_rfl) (fun K hK=>?_)
    go_simp
    go_at_call 36
    refine(deriv_x (N:=60) (M:=4001) (K:=4065) (by decide) (by decide) (by decide) (by decide) _ _ _ (PA.out.mono (am EB.out KR10.out))).mono ?_;rintro e r13 ⟨vv913,rfl,hv,kv⟩;have KR13:=ZZ (show Ext W9 r13 from am KR10.out kv);have N3:=ZZ hv;clear kv hv
    try go_wp2_with fail
    refine hK.out _ _ (HCc.out _ KR13.out) (fun hHeld=>?_);clear hK K
    try simp only [Act.put,lyA,lyB,lyC]
    refine call_p (i:=15) (some 116) rfl rfl (by kernel_rfl) (fun K hK=>?_)
    go_simp
    go_at_call 37
    refine(pderiv_n 4001 (by decide) _ a (ref_len PA.out (by decide)) _ (RA.out.mono (am EB.out KR13.out)) PA.out.2.2).mono ?_;rintro e r15 ⟨vv915,rfl,hv,kv⟩;have KR15:=ZZ (show Ext W9 r15 from am KR13.out kv)
    replace N3:=ZZ (N3.out.mono kv)
    have N4:=ZZ hv;clear kv hv
    try go_wp2_with fail
    refine hK.out _ _ (HCc.out _ KR15.out) (fun hHeld=>?_);clear hK K
    try simp only [Act.put,lyA,lyB,lyC]
    refine call_p (i:=16) (some 117) rfl rfl (by kernel_rfl) (fun K hK=>?_)
    go_simp
    go_at_call 23
    refine(same_x (N:=60) (M:=4065) (by decide) (by decide) _ _ (derivF a) _ N3.out N4.out (HT.out.mono (am EB.out KR15.out))).mono ?_;rintro e r16 ⟨rfl,kv⟩;have KR16:=ZZ (show Ext W9 r16 from am KR15.out kv)
    replace N3:=ZZ (N3.out.mono kv)
    replace N4:=ZZ (N4.out.mono kv)
    clear kv N3 N4
    try go_wp2_with fail
    refine hK.out _ _ (HCc.out _ KR16.out) (fun hHeld=>?_);clear hK K
    try simp only [Act.put,lyA,lyB,lyC]
    refine take_a 17 118 ?_;refine take_a 18 119 ?_;refine take_a 19 120 ?_;refine take_a 20 121 ?_;refine take_a 21 122 ?_;refine take_a 22 123 ?_;refine take_a 24 125 ?_;refine take_a 25 126 ?_;refine take_a 26 127 ?_;refine take_a 27 128 ?_;refine call_p (i:=23) (some 124) rfl rfl (by kernel_rfl) (fun K hK=>?_)
    go_simp
    go_at_call 39
    refine(eval_x (N:=60) (M:=4001) (K:=500000) (by decide) (by decide) (by decide) (by decide) _ _ a x _ (PA.out.mono (am EB.out KR16.out)) (NX.out.mono KR16.out) BX.out).mono ?_;rintro e r23 ⟨vv923,rfl,hv,kv⟩;have KR23:=ZZ (show Ext W9 r23 from am KR16.out kv);obtain⟨s11,A11,k11,ca11,B11,l11,cb11,rfl⟩:=hv.form2;have N5:=ZZ hv;clear kv hv
    try go_wp2_with fail
    refine hK.out _ _ (HCc.out _ KR23.out) (fun hHeld=>?_);clear hK K
    try simp only [Act.put,lyA,lyB,lyC]
    refine call_p (i:=28) (some 129) rfl rfl (by kernel_rfl) (fun K hK=>?_)
    go_simp
    go_at_call 40
    refine(peval_n 4001 (by decide) _ _ a x (ref_len PA.out (by decide)) (Nat.le_trans (ref_mul (K:=480181) PA.out (by decide)) (by decide)) _ (RA.out.mono (am EB.out KR23.out)) (MX.out.mono KR23.out) PA.out.2.2 BX.out).mono ?_;rintro e r28 ⟨vv928,rfl,hv,kv⟩;have KR28:=ZZ (show Ext W9 r28 from am KR23.out kv)
    replace N5:=ZZ (N5.out.mono kv)
    obtain⟨s12,A12,k12,ca12,B12,l12,cb12,rfl,-⟩:=hv.form;have N6:=ZZ hv;clear kv hv
    try go_wp2_with fail
    refine hK.out _ _ (HCc.out _ KR28.out) (fun hHeld=>?_);clear hK K
    try simp only [Act.put,lyA,lyB,lyC]
    refine call_p (i:=29) (some 130) rfl rfl (by kernel_rfl) (fun K hK=>?_)
    go_simp
    go_at_call 38
    refine(same_c 480181 (by decide) _ _ (evR a x) _ N5.out N6.out BEV.out (HT.out.mono (am EB.out KR28.out))).mono ?_;rintro e r29 ⟨rfl,kv⟩;have KR29:=ZZ (show Ext W9 r29 from am KR28.out kv)
    replace N5:=ZZ (N5.out.mono kv)
    replace N6:=ZZ (N6.out.mono kv)
    clear kv N5 N6
    try go_wp2_with fail
    refine hK.out _ _ (HCc.out _ KR29.out) (fun hHeld=>?_);clear hK K
    try simp only [Act.put,lyA,lyB,lyC]
    refine take_a 30 131 ?_;refine take_a 31 132 ?_;refine take_a 32 133 ?_;refine take_a 33 134 ?_;refine take_a 35 136 ?_;refine take_a 36 137 ?_;refine call_p (i:=34) (some 135) rfl rfl (by kernel_rfl) (fun K hK=>?_)
    go_simp
    go_at_call 10
    refine(span_x (N:=60) (M:=4001) (by decide) (by decide) (by decide) _ _ a x y _ (PA.out.mono (am EB.out KR29.out)) (SN9.out.mono KR29.out) BX.out BY.out).mono ?_;rintro e r34 ⟨vv934,rfl,hv,kv⟩;have KR34:=ZZ (show Ext W9 r34 from am KR29.out kv);obtain⟨s13,A13,k13,ca13,B13,l13,cb13,s14,A14,k14,ca14,B14,l14,cb14,rfl,-⟩:=hv.form;have N7:=ZZ hv;clear kv hv
    try go_wp2_with fail
    refine hK.out _ _ (HCc.out _ KR34.out) (fun hHeld=>?_);clear hK K
    try simp only [Act.put,lyA,lyB,lyC]
    refine call_p (i:=37) (some 138) rfl rfl (by kernel_rfl) (fun K hK=>?_)
    go_simp
    go_at_call 42
    refine(pevs_n 4001 (by decide) _ _ a x y (ref_len PA.out (by decide)) (by have:=ref_mul (K:=480181) PA.out (by decide);omega) _ (RA.out.mono (am EB.out KR34.out)) (SM9.out.mono KR34.out) PA.out.2.2 BX.out BY.out).mono ?_;rintro e r37 ⟨vv937,rfl,hv,kv⟩;have KR37:=ZZ (show Ext W9 r37 from am KR34.out kv)
    replace N7:=ZZ (N7.out.mono kv)
    obtain⟨s15,A15,k15,ca15,B15,l15,cb15,s16,A16,k16,ca16,B16,l16,cb16,rfl⟩:=hv.form2;have N8:=ZZ hv;clear kv hv
    try go_wp2_with fail
    refine hK.out _ _ (HCc.out _ KR37.out) (fun hHeld=>?_);clear hK K
    try simp only [Act.put,lyA,lyB,lyC]
    refine call_p (i:=38) (some 139) rfl rfl (by kernel_rfl) (fun K hK=>?_)
    go_simp
    go_at_call 41
    refine(alike_c 480181 (by decide) _ _ (evS a (x,y)).1 (evS a (x,y)).2 _ N7.out N8.out BES.out.1 BES.out.2 (HT.out.mono (am EB.out KR37.out))).mono ?_;rintro e r38 ⟨rfl,kv⟩;have KR38:=ZZ (show Ext W9 r38 from am KR37.out kv)
    replace N7:=ZZ (N7.out.mono kv)
    replace N8:=ZZ (N8.out.mono kv)
    clear kv N7 N8
    try go_wp2_with fail
    refine hK.out _ _ (HCc.out _ KR38.out) (fun hHeld=>?_);clear hK K
    try simp only [Act.put,lyA,lyB,lyC]
    refine take_a 39 140 ?_;refine take_a 40 141 ?_;refine call_p (i:=41) (some 142) rfl rfl (by kernel_rfl) (fun K hK=>?_)
    go_simp
    go_at_call 20
    refine(awake_p _ (HT.out.mono (am EB.out KR38.out))).mono ?_;rintro e r41 ⟨rfl,kv⟩;have KR41:=ZZ (show Ext W9 r41 from am KR38.out kv);clear kv
    try go_wp2_with fail
    refine hK.out _ _ (HCc.out _ KR41.out) (fun hHeld=>?_);clear hK K
    try simp only [Act.put,lyA,lyB,lyC]
    refine take_a 42 143 ?_;refine take_a 43 6 ?_;refine wpAnyH_done (by kernel_rfl) ?_ _;refine NoPanic.normal ?_;go_wp2_with fail;go_ret;exact⟨rfl,am K7.out (am EB.out KR41.out)⟩
end Go.Proofs.YtjamgccgoapbeaaGreatDoor
