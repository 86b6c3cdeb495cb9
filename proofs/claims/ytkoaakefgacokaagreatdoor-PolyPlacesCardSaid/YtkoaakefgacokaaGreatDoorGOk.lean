/- The walk of PolyPlaces. Printed by gen_oj.py. -/
import Derived.Test.YtkoaakefgacokaaGreatDoorGOj
import Derived.Test.YtkoaakefgacokaaGreatDoorGYt
import Derived.Deep.DeepCutAuto
set_option linter.unusedVariables false
set_option linter.unusedSimpArgs false
set_option maxRecDepth 100000
set_option maxHeartbeats 64000000
namespace Go.Proofs.YtkoaakefgacokaaGreatDoor
open Go.RowKit
theorem places_c (v0 v1:Value) (l0 l1:List (List UInt8)) (t0 t1 t2 t3:List UInt8) (w:World) (h0:Stl w v0 l0) (h1:Stl w v1 l1) (m0:t0.length≤maxLen) (m1:t1.length≤maxLen) (m2:t2.length≤maxLen) (m3:t3.length≤maxLen) (ht:Tens w):Calls Tryz.prog 3 #[v0,v1,.agg #[.string ⟨t0.toArray⟩,.string ⟨t1.toArray⟩,.string ⟨t2.toArray⟩,.string ⟨t3.toArray⟩]] w fun e w'=>e=.returned (.bool true)∧Ext w w':=by
 obtain⟨Q0,c0,rfl,-⟩:=h0.form;obtain⟨Q1,c1,rfl,-⟩:=h1.form;obtain⟨n0,hn0⟩:∃n,l0.length=n:=⟨_,rfl⟩;obtain⟨n1,hn1⟩:∃n,l1.length=n:=⟨_,rfl⟩;rw [hn0] at h0 ⊢;rw [hn1] at h1 ⊢;have HS0:=ZZ h0;have HS1:=ZZ h1;have HT:=ZZ ht;have HN0:=ZZ hn0;have HN1:=ZZ hn1;have HM0:=ZZ m0;have HM1:=ZZ m1;have HM2:=ZZ m2;have HM3:=ZZ m3;clear h0 h1 ht hn0 hn1 m0 m1 m2 m3;have EA:=ZZ (al (al (ab w (.cells #[.string ⟨t0.toArray⟩,.string ⟨t1.toArray⟩,.string ⟨t2.toArray⟩,.string ⟨t3.toArray⟩] 24)) (ab _ (.cells #[.string ⟨t0.toArray⟩,.string ⟨t1.toArray⟩,.string ⟨t2.toArray⟩,.string ⟨t3.toArray⟩] 23))) (ab _ (.cells #[.slice Q0 n0 c0,.slice Q1 n1 c1,(.slice (some ⟨w.heap.size+1,0,none⟩) 4 4)] 22)));have RC0:=ZZ (((al (ab _ (.cells #[.string ⟨t0.toArray⟩,.string ⟨t1.toArray⟩,.string ⟨t2.toArray⟩,.string ⟨t3.toArray⟩] 23)) (ab _ (.cells #[.slice Q0 n0 c0,.slice Q1 n1 c1,(.slice (some ⟨w.heap.size+1,0,none⟩) 4 4)] 22))).block _ (lt_of_block (heap_alloc_new w (.cells #[.string ⟨t0.toArray⟩,.string ⟨t1.toArray⟩,.string ⟨t2.toArray⟩,.string ⟨t3.toArray⟩] 24)))).trans (heap_alloc_new w (.cells #[.string ⟨t0.toArray⟩,.string ⟨t1.toArray⟩,.string ⟨t2.toArray⟩,.string ⟨t3.toArray⟩] 24)))
 have GL:=ZZ (show Gl (((w.alloc (.cells #[.string ⟨t0.toArray⟩,.string ⟨t1.toArray⟩,.string ⟨t2.toArray⟩,.string ⟨t3.toArray⟩] 24)).alloc (.cells #[.string ⟨t0.toArray⟩,.string ⟨t1.toArray⟩,.string ⟨t2.toArray⟩,.string ⟨t3.toArray⟩] 23)).alloc (.cells #[.slice Q0 n0 c0,.slice Q1 n1 c1,(.slice (some ⟨w.heap.size+1,0,none⟩) 4 4)] 22)) (.slice (some ⟨w.heap.size+1+1,0,none⟩) 3 3) [(.slice Q0 n0 c0,l0),(.slice Q1 n1 c1,l1),((.slice (some ⟨w.heap.size+1,0,none⟩) 4 4),[t0,t1,t2,t3])] from by
  obtain⟨x0,x1,x2,-⟩:=aj (heap_alloc_new ((w.alloc (.cells #[.string ⟨t0.toArray⟩,.string ⟨t1.toArray⟩,.string ⟨t2.toArray⟩,.string ⟨t3.toArray⟩] 24)).alloc (.cells #[.string ⟨t0.toArray⟩,.string ⟨t1.toArray⟩,.string ⟨t2.toArray⟩,.string ⟨t3.toArray⟩] 23)) (.cells #[.slice Q0 n0 c0,.slice Q1 n1 c1,(.slice (some ⟨w.heap.size+1,0,none⟩) 4 4)] 22))
  simp only [World.size_alloc] at x0 x1 x2
  have hst:Stl ((w.alloc (.cells #[.string ⟨t0.toArray⟩,.string ⟨t1.toArray⟩,.string ⟨t2.toArray⟩,.string ⟨t3.toArray⟩] 24)).alloc (.cells #[.string ⟨t0.toArray⟩,.string ⟨t1.toArray⟩,.string ⟨t2.toArray⟩,.string ⟨t3.toArray⟩] 23)) (.slice (some ⟨w.heap.size+1,0,none⟩) 4 4) [t0,t1,t2,t3]:=by
   have h:=stl_four (w.alloc (.cells #[.string ⟨t0.toArray⟩,.string ⟨t1.toArray⟩,.string ⟨t2.toArray⟩,.string ⟨t3.toArray⟩] 24)) HM0.out HM1.out HM2.out HM3.out;rw [World.size_alloc] at h;exact h
  refine⟨_,3,rfl,fun i y hy=>?_⟩
  match i,hy with
  | 0,hy=>obtain rfl:=Option.some.inj hy;exact⟨x0,HS0.out.mono EA.out⟩
  | 1,hy=>obtain rfl:=Option.some.inj hy;exact⟨x1,HS1.out.mono EA.out⟩
  | 2,hy=>obtain rfl:=Option.some.inj hy;exact⟨x2,hst.mono (ab _ _)⟩)
 have hun:undef=.tuple #[]:=rfl;obtain⟨M,hM⟩:∃M:Nat,M=5000000000:=⟨_,rfl⟩;have HMG:=ZZ (show 5000000000≤M from by omega);have HK:=ZZ (show M≤5400000000 from by omega);have HP1:=ZZ (show 0<M from by omega);clear hM
 go_enter Tryz.func3,Tryz.ntmps3
 go_wp2_with fail;generalize (((w.alloc (.cells #[.string ⟨t0.toArray⟩,.string ⟨t1.toArray⟩,.string ⟨t2.toArray⟩,.string ⟨t3.toArray⟩] 24)).alloc (.cells #[.string ⟨t0.toArray⟩,.string ⟨t1.toArray⟩,.string ⟨t2.toArray⟩,.string ⟨t3.toArray⟩] 23)).alloc (.cells #[.slice Q0 n0 c0,.slice Q1 n1 c1,(.slice (some ⟨w.heap.size+1,0,none⟩) 4 4)] 22))=W0 at *
 generalize hwg:w.heap.size=g0 at *;refine(great_p _ [(.slice Q0 n0 c0,l0),(.slice Q1 n1 c1,l1),((.slice (some ⟨g0+1,0,none⟩) 4 4),[t0,t1,t2,t3])] (by simp) _ GL.out).mono ?_;rintro e w1 ⟨rfl,kk1⟩;have K1:=ZZ (al EA.out kk1);have RC1:=ZZ ((kk1.block _ (lt_of_block RC0.out)).trans RC0.out);obtain⟨d,hd⟩:∃d,greatF [(.slice Q0 n0 c0,l0),(.slice Q1 n1 c1,l1),((.slice (some ⟨g0+1,0,none⟩) 4 4),[t0,t1,t2,t3])]=d:=⟨_,rfl⟩;rw [hd];clear hd kk1 RC0 hwg GL EA
 cases d with
 | true=>
  go_wp2_with fail;refine(awake_p _ (HT.out.mono K1.out)).mono ?_
  rintro e wz ⟨rfl,kz⟩;have KZ:=ZZ (al K1.out kz);clear kz;go_wp2_with fail;go_ret;exact⟨rfl,KZ.out⟩
 | false=>
  rcases Nat.lt_or_ge 14 n0 with z0|z0
  ·have g0:decide ((14:Int)<(n0:Int))=true:=decide_eq_true (by omega)
   have g0':decide (14<n0)=true:=decide_eq_true z0;go_wp2_with fail;refine(awake_p _ (HT.out.mono K1.out)).mono ?_;rintro e wz ⟨rfl,kz⟩;have KZ:=ZZ (al K1.out kz);clear kz;go_wp2_with fail;go_ret;exact⟨rfl,KZ.out⟩
  have ga0:decide ((14:Int)<(n0:Int))=false:=decide_eq_false (by omega);have ga0':decide (14<n0)=false:=decide_eq_false (by omega)
  rcases Nat.lt_or_ge 14 n1 with z1|z1
  ·have gb0:decide ((14:Int)<(n1:Int))=true:=decide_eq_true (by omega)
   have gb0':decide (14<n1)=true:=decide_eq_true z1;go_wp2_with fail;refine(awake_p _ (HT.out.mono K1.out)).mono ?_;rintro e wz ⟨rfl,kz⟩;have KZ:=ZZ (al K1.out kz);clear kz;go_wp2_with fail;go_ret;exact⟨rfl,KZ.out⟩
  have gb0:decide ((14:Int)<(n1:Int))=false:=decide_eq_false (by omega);have gb0':decide (14<n1)=false:=decide_eq_false (by omega);have HLL0:=ZZ (show l0.length≤14 from by have:=HN0.out;omega);have HLL1:=ZZ (show l1.length≤14 from by have:=HN1.out;omega);obtain⟨p,hp⟩:∃a,listF l0=a:=⟨_,rfl⟩;obtain⟨q,hq⟩:∃a,listF l1=a:=⟨_,rfl⟩;have HLA:=ZZ hp;have HLB:=ZZ hq;clear hp hq z0 z1;go_wp2_with fail;refine(list_14 _ l0 _ (HS0.out.mono K1.out) HLL0.out).mono ?_;rintro e w2 ⟨va,xa,rfl,ha,kk2⟩;rw [HLA.out] at ha;have PP:=ZZ ha.1;have LP:=ZZ ha.2.1;have BP:=ZZ ha.2.2;have K2:=ZZ (al K1.out kk2);have RC2:=ZZ ((kk2.block _ (lt_of_block RC1.out)).trans RC1.out);clear ha kk2 RC1 HLA HLL0 HN0 ga0 ga0' gb0 gb0';go_wp2_with fail;refine(list_14 _ l1 _ (HS1.out.mono K2.out) HLL1.out).mono ?_;rintro e w3 ⟨vb,xb,rfl,hb,kk3⟩;rw [HLB.out] at hb
  replace PP:=ZZ (PP.out.mono kk3)
  have PQ:=ZZ hb.1;have LQ:=ZZ hb.2.1;have BQ:=ZZ hb.2.2;have K3:=ZZ (al K2.out kk3);have RC3:=ZZ ((kk3.block _ (lt_of_block RC2.out)).trans RC2.out);have EC3:=ZZ (ab w3 (.cells #[.string ⟨t0.toArray⟩,.string ⟨t1.toArray⟩,.string ⟨t2.toArray⟩,.string ⟨t3.toArray⟩] 23));have ST3:=ZZ (stl_four w3 HM0.out HM1.out HM2.out HM3.out);clear hb kk3 K2 RC2 HLB HLL1 HN1 K1 HS0 HS1;have hc0:w3.cell? ⟨g0,0,none⟩=some (.string ⟨t0.toArray⟩):=by rw [cell_of_row _ _ _ _ _ _ RC3.out];rfl
  have hc1:w3.cell? ⟨g0,1,none⟩=some (.string ⟨t1.toArray⟩):=by rw [cell_of_row _ _ _ _ _ _ RC3.out];rfl
  have hc2:w3.cell? ⟨g0,2,none⟩=some (.string ⟨t2.toArray⟩):=by rw [cell_of_row _ _ _ _ _ _ RC3.out];rfl
  have hc3:w3.cell? ⟨g0,3,none⟩=some (.string ⟨t3.toArray⟩):=by rw [cell_of_row _ _ _ _ _ _ RC3.out];rfl
  go_wp2_with fail;refine(list_14 _ [t0,t1,t2,t3] _ ST3.out (show 4≤14 by decide)).mono ?_
  rintro e W6 ⟨vc,xc,rfl,hc,kk4⟩
  replace kk4:=al EC3.out kk4
  replace PP:=ZZ (PP.out.mono kk4)
  replace PQ:=ZZ (PQ.out.mono kk4)
  have EW:=ZZ (al K3.out kk4)
  replace HT:=ZZ (HT.out.mono EW.out)
  obtain⟨xn,yn,un,vn,hxy⟩:∃x y z u,listF [t0,t1,t2,t3]=[x,y,z,u]:=⟨_,_,_,_,rfl⟩;rw [hxy] at hc;have BX:=ZZ (show Bq 4001 xn from hc.2.2 xn (by simp));have BY:=ZZ (show Bq 4001 yn from hc.2.2 yn (by simp));have BU:=ZZ (show Bq 4001 un from hc.2.2 un (by simp));have BV:=ZZ (show Bq 4001 vn from hc.2.2 vn (by simp));obtain⟨AC,cC,eC,-⟩:=id hc.1
  replace eC:vc=.slice AC 4 cC:=eC
  subst eC;obtain⟨bn,on,rfl,⟨s1,A1,k1,ca1,B1,l1,cb1,x0,x1,x2,hx⟩,⟨s2,A2,k2,ca2,B2,l2,cb2,y0,y1,y2,hy⟩,⟨s3,A3,k3,ca3,B3,l3,cb3,z0,z1,z2,hz⟩,⟨s4,A4,k4,ca4,B4,l4,cb4,u0,u1,u2,hu⟩⟩:=tri_four hc.1;have NX:=ZZ hx;have NY:=ZZ hy;have NU:=ZZ hz;have NV:=ZZ hu
  have HCN:=ZZ (show ∀W,Ext W6 W→(W.cell? ⟨bn,on,none⟩=some (.bool s1)∧W.cell? ⟨bn,on+1,none⟩=some (.slice A1 k1 ca1)∧W.cell? ⟨bn,on+2,none⟩=some (.slice B1 l1 cb1))∧(W.cell? ⟨bn,on+3,none⟩=some (.bool s2)∧W.cell? ⟨bn,on+3+1,none⟩=some (.slice A2 k2 ca2)∧W.cell? ⟨bn,on+3+2,none⟩=some (.slice B2 l2 cb2))∧(W.cell? ⟨bn,on+6,none⟩=some (.bool s3)∧W.cell? ⟨bn,on+6+1,none⟩=some (.slice A3 k3 ca3)∧W.cell? ⟨bn,on+6+2,none⟩=some (.slice B3 l3 cb3))∧(W.cell? ⟨bn,on+9,none⟩=some (.bool s4)∧W.cell? ⟨bn,on+9+1,none⟩=some (.slice A4 k4 ca4)∧W.cell? ⟨bn,on+9+2,none⟩=some (.slice B4 l4 cb4)) from fun W k=>
   ⟨⟨ao k x0,ao k x1,ao k x2⟩,⟨ao k y0,ao k y1,ao k y2⟩,⟨ao k z0,ao k z1,ao k z2⟩,ao k u0,ao k u1,ao k u2⟩)
  obtain⟨m,hmm⟩:∃m,mulF p q=m:=⟨_,rfl⟩;have FP:=ZZ ((hf_14 BP.out LP.out).mono (show 56015≤112035 by decide));have FQ:=ZZ ((hf_14 BQ.out LQ.out).mono (show 56015≤112035 by decide));have FM:=ZZ (show HF 112035 m from hmm ▸ hf_two BP.out LP.out BQ.out LQ.out);have LM:=ZZ (show m.length≤27 from hmm ▸ mul_len27 LP.out LQ.out);have TM:=ZZ (show trimF m=m from hmm ▸ trim_trim _);obtain⟨i1,j1,e1,i2,j2,e2,i3,j3,e3,hr1,hr2,hr3,hrc⟩:=routh_cases (p:=p) (q:=q) LP.out LQ.out;have hct:=fun (a:askF p=0) (b:askF q=0) (c:askF (mulF p q)=0)=>rect_cases LP.out LQ.out a b c xn yn un vn;rw [hmm] at hr3 hrc hct;have R1:=ZZ hr1;have R2:=ZZ hr2;have R3:=ZZ hr3;have RCC:=ZZ hct;have HMU:=ZZ hmm;have EB:=ZZ (ae W6);have e00:((0:Int) != 0)=false:=rfl;have e01:((0:Int) == 0)=true:=rfl;have e80:((8:Int) != 0)=true:=rfl;have e88:((8:Int) == 8)=true:=rfl;have e02:((0:Int) == 120)=false:=rfl;clear hc hxy kk4 hx hy hz hu x0 x1 x2 y0 y1 y2 z0 z1 z2 u0 u1 u2 hc0 hc1 hc2 hc3 EC3 ST3 RC3 K3 HM0 HM1 HM2 HM3 hr1 hr2 hr3 hct hmm;go_wp2_with fail;refine(mul_p 4001 (by decide) _ _ p q (by have:=LP.out;omega) (by have:=LQ.out;omega) (by have:=LP.out;omega) _ (PP.out.mono EB.out) (PQ.out.mono EB.out) BP.out BQ.out).mono ?_;rintro e b1 ⟨vm,rfl,hm,kq⟩
  replace EB:=ZZ (al EB.out kq)
  clear kq;rw [HMU.out] at hm;have PM:=ZZ hm.pl;clear hm;go_wp2_with fail;refine(routh_p M HP1.out HK.out _ p (by have:=LP.out;omega) _ (PP.out.mono EB.out) (fun h=>routh_ok3 HMG.out (by have:=LP.out;omega) FP.out h) (i1,j1,e1) R1.out).mono ?_;rintro e b2 ⟨rfl,kq⟩
  replace EB:=ZZ (al EB.out kq)
  replace PM:=ZZ (PM.out.mono kq)
  clear kq;go_wp2_with fail;refine(routh_p M HP1.out HK.out _ q (by have:=LQ.out;omega) _ (PQ.out.mono EB.out) (fun h=>routh_ok3 HMG.out (by have:=LQ.out;omega) FQ.out h) (i2,j2,e2) R2.out).mono ?_;rintro e b3 ⟨rfl,kq⟩
  replace EB:=ZZ (al EB.out kq)
  replace PM:=ZZ (PM.out.mono kq)
  clear kq;go_wp2_with fail;refine(routh_p M HP1.out HK.out _ m (by have:=LM.out;omega) _ PM.out (fun h=>routh_ok3 HMG.out (by have:=LM.out;omega) FM.out h) (i3,j3,e3) R3.out).mono ?_;rintro e b4 ⟨rfl,kq⟩
  replace EB:=ZZ (al EB.out kq)
  replace PM:=ZZ (PM.out.mono kq)
  clear kq
  rcases hrc with ⟨hef,rfl⟩|⟨rfl,rfl,rfl,hw1,hw2,z1,z2,z3⟩
  ·by_cases he:e1=0
   ·obtain rfl:=he
    have he2:e2≠0:=hef.resolve_left (fun h=>h rfl);have q2:(e2 != 0)=true:=bne_iff_ne.2 he2;clear hef he2;go_wp2_with fail;refine(awake_p _ (HT.out.mono EB.out)).mono ?_;rintro e wz ⟨rfl,kz⟩;have KZ:=ZZ (al EB.out kz);clear kz;go_wp2_with fail;go_ret;exact⟨rfl,al EW.out KZ.out⟩
   ·have q2:(e1 != 0)=true:=bne_iff_ne.2 he
    clear hef he;go_wp2_with fail;refine(awake_p _ (HT.out.mono EB.out)).mono ?_;rintro e wz ⟨rfl,kz⟩;have KZ:=ZZ (al EB.out kz);clear kz;go_wp2_with fail;go_ret;exact⟨rfl,al EW.out KZ.out⟩
  have Z1:=ZZ z1;have Z2:=ZZ z2;have Z3:=ZZ z3;have hi3:(i3 != i3)=false:=by simp
  have hj3:(j3 != j3)=false:=by simp
  clear z1 z2 z3 R1 R2 R3
  go_upto_region 14 with (fail)
  have HCa:=ZZ (show ∀W,Ext b4 W→(W.cell? ⟨bn,on,none⟩=some (.bool s1)∧W.cell? ⟨bn,on+1,none⟩=some (.slice A1 k1 ca1)∧W.cell? ⟨bn,on+2,none⟩=some (.slice B1 l1 cb1))∧(W.cell? ⟨bn,on+3,none⟩=some (.bool s2)∧W.cell? ⟨bn,on+3+1,none⟩=some (.slice A2 k2 ca2)∧W.cell? ⟨bn,on+3+2,none⟩=some (.slice B2 l2 cb2))∧(W.cell? ⟨bn,on+6,none⟩=some (.bool s3)∧W.cell? ⟨bn,on+6+1,none⟩=some (.slice A3 k3 ca3)∧W.cell? ⟨bn,on+6+2,none⟩=some (.slice B3 l3 cb3))∧(W.cell? ⟨bn,on+9,none⟩=some (.bool s4)∧W.cell? ⟨bn,on+9+1,none⟩=some (.slice A4 k4 ca4)∧W.cell? ⟨bn,on+9+2,none⟩=some (.slice B4 l4 cb4)) from fun W k=>HCN.out W (al EB.out k));have SPN:=ZZ (show Sp b4 (.agg #[.bool s1,.slice A1 k1 ca1,.slice B1 l1 cb1,.bool s2,.slice A2 k2 ca2,.slice B2 l2 cb2]) xn yn from ⟨_,_,_,_,_,_,rfl,NX.out.mono EB.out,NY.out.mono EB.out⟩);have SPM:=ZZ (show Sp b4 (.agg #[.bool s3,.slice A3 k3 ca3,.slice B3 l3 cb3,.bool s4,.slice A4 k4 ca4,.slice B4 l4 cb4]) un vn from ⟨_,_,_,_,_,_,rfl,NU.out.mono EB.out,NV.out.mono EB.out⟩);clear hw1 hw2 hi3 hj3 HCN NX NY NU NV e00 e01 e80 e88 e02 hun
  go_cut [23,24] (fun p1 p2 wx=>BoxS wx p1 xn yn∧BoxS wx p2 un vn∧Hid (Ext b4 wx))
  case first=>
   refine wp_region_noPanic ?_;refine wp_region_held_drew (S:=fun W=>(W.cell? ⟨bn,on,none⟩=some (.bool s1)∧W.cell? ⟨bn,on+1,none⟩=some (.slice A1 k1 ca1)∧W.cell? ⟨bn,on+2,none⟩=some (.slice B1 l1 cb1))∧(W.cell? ⟨bn,on+3,none⟩=some (.bool s2)∧W.cell? ⟨bn,on+3+1,none⟩=some (.slice A2 k2 ca2)∧W.cell? ⟨bn,on+3+2,none⟩=some (.slice B2 l2 cb2))∧(W.cell? ⟨bn,on+6,none⟩=some (.bool s3)∧W.cell? ⟨bn,on+6+1,none⟩=some (.slice A3 k3 ca3)∧W.cell? ⟨bn,on+6+2,none⟩=some (.slice B3 l3 cb3))∧(W.cell? ⟨bn,on+9,none⟩=some (.bool s4)∧W.cell? ⟨bn,on+9+1,none⟩=some (.slice A4 k4 ca4)∧W.cell? ⟨bn,on+9+2,none⟩=some (.slice B4 l4 cb4))) (by kernel_rfl) (HCa.out _ (ac _)) (fun hHeld=>?_);refine take_a 0 122 ?_;refine take_a 3 125 ?_;refine take_a 7 129 ?_;refine take_a 10 132 ?_;refine take_a 1 123 ?_;refine take_a 4 126 ?_;refine take_a 8 130 ?_;refine take_a 11 133 ?_;refine take_a 2 124 ?_;refine take_a 5 127 ?_;refine take_a 9 131 ?_;refine take_a 12 134 ?_;refine take_p (i:=6) 128 (v:=.agg #[.bool s1,.slice A1 k1 ca1,.slice B1 l1 cb1,.bool s2,.slice A2 k2 ca2,.slice B2 l2 cb2]) rfl rfl (by kernel_rfl) (by kernel_rfl) (by kernel_rfl) (fun _ _ _ h=>h) (Or.inl ⟨rfl,?hya6⟩) (by assumption) ?rra6
   case hya6=>(intro w hSw;(try dsimp only at hSw);go_simp)
   try simp only [Act.put,lyA,lyB,lyC]
   refine take_p (i:=13) 135 (v:=.agg #[.bool s3,.slice A3 k3 ca3,.slice B3 l3 cb3,.bool s4,.slice A4 k4 ca4,.slice B4 l4 cb4]) rfl rfl (by kernel_rfl) (by kernel_rfl) (by kernel_rfl) (fun _ _ _ h=>h) (Or.inl ⟨rfl,?hya13⟩) (by assumption) ?rra13
   case hya13=>(intro w hSw;(try dsimp only at hSw);go_simp)
   try simp only [Act.put,lyA,lyB,lyC]
   refine free_q (J:=fun D y W=>Hid (Ext b4 W)∧Fc (D 14) (Nw b4 W (y 14) (.cells #[.bool false,.slice none 0 0,.slice none 0 0,.bool false,.slice none 0 0,.slice none 0 0] 40))∧Fc (D 15) (Nw b4 W (y 15) (.cells #[.bool false,.slice none 0 0,.slice none 0 0,.bool false,.slice none 0 0,.slice none 0 0] 40))∧Fc (D 14 && D 15) (y 14≠y 15)) [(14,23),(15,24)] 2 rfl (by kernel_rfl) (by kernel_rfl) (by assumption) (fun D y hD=>⟨ZZ (ac _),Fc.off (hD 14 (by simp)),Fc.off (hD 15 (by simp)),Fc.off (by rw [hD 14 (by simp)];rfl)⟩) (met_cons ?mta14 (met_cons ?mta15 met_nil)) (fun D y w hD hHeld hJ=>?fina)
   case mta14=>
    refine Met.mq [] 23 rfl rfl (by kernel_rfl) (by kernel_rfl) (fun D y w hS hJ hD hd K hK=>?_);obtain⟨he,f14,f15,fne⟩:=hJ
    simp only [putsL,allOf,lyD,lyE,lyF,lyG,Act.put,lyA,lyB,lyC]
    go_simp
    refine hK.out (.pointer (some ⟨w.heap.size,0,none⟩)) _ _ (by kernel_rfl) (HCa.out _ (al he.out (ab _ _))) (fun hHeld=>?_);exact⟨ZZ (al he.out (ab _ _)),Fc.on (Nw.new he.out _),f15.map (·.mono (ab _ _)),fun e=>(Nw.ne (f15.get (Bool.and_eq_true_iff.1 e).2)).symm⟩
   case mta15=>
    refine Met.mq [] 24 rfl rfl (by kernel_rfl) (by kernel_rfl) (fun D y w hS hJ hD hd K hK=>?_);obtain⟨he,f14,f15,fne⟩:=hJ
    simp only [putsL,allOf,lyD,lyE,lyF,lyG,Act.put,lyA,lyB,lyC]
    go_simp
    refine hK.out (.pointer (some ⟨w.heap.size,0,none⟩)) _ _ (by kernel_rfl) (HCa.out _ (al he.out (ab _ _))) (fun hHeld=>?_);exact⟨ZZ (al he.out (ab _ _)),f14.map (·.mono (ab _ _)),Fc.on (Nw.new he.out _),fun e=>Nw.ne (f14.get (Bool.and_eq_true_iff.1 e).1)⟩
   case fina=>
    obtain⟨he,f14,f15,fne⟩:=hJ;have n14:=f14.get (hD 14 (by simp));have n15:=f15.get (hD 15 (by simp));have nne:=fne.get (by rw [hD 14 (by simp),hD 15 (by simp)];rfl)
    simp only [putsL,allOf,lyD,lyE,lyF,lyG,Act.put,lyA,lyB,lyC]
    clear f14 f15 fne hD;generalize y 14=z14 at n14 nne ⊢;generalize y 15=z15 at n15 nne ⊢;obtain⟨ga,rfl,ha,ra⟩:=n14;obtain⟨gb,rfl,hb,rb⟩:=n15;have hne:=ZZ (show ga≠gb from fun e=>nne (by rw [e]));have RA:=ZZ ra;have RB:=ZZ rb;have GA:=ZZ ha;have GB:=ZZ hb;clear ra rb ha hb nne y;refine call_p (i:=16) none rfl rfl (by kernel_rfl) (fun K hK=>?_);obtain⟨zz0,zz1,zz2,zz3,zz4,zz5,zf0,zf1,zf2,zf3,zf4,zf5⟩:=ai RA.out
    go_simp
    clear zz0 zz1 zz2 zz3 zz4 zz5 zf0 zf1 zf2 zf3 zf4 zf5;generalize hWP:World.setCell (World.setCell (World.setCell (World.setCell (World.setCell (World.setCell (w) ⟨ga,0,none⟩ (.bool s1)) ⟨ga,1,none⟩ (.slice A1 k1 ca1)) ⟨ga,2,none⟩ (.slice B1 l1 cb1)) ⟨ga,3,none⟩ (.bool s2)) ⟨ga,4,none⟩ (.slice A2 k2 ca2)) ⟨ga,5,none⟩ (.slice B2 l2 cb2)=X1;have hPP:put6 w ga (.bool s1) (.slice A1 k1 ca1) (.slice B1 l1 cb1) (.bool s2) (.slice A2 k2 ca2) (.slice B2 l2 cb2)=X1:=hWP;clear hWP;have RA1:=ZZ (ag RA.out (.bool s1) (.slice A1 k1 ca1) (.slice B1 l1 cb1) (.bool s2) (.slice A2 k2 ca2) (.slice B2 l2 cb2));have RB1:=ZZ (ah RB.out (hne.out.symm) (.bool s1) (.slice A1 k1 ca1) (.slice B1 l1 cb1) (.bool s2) (.slice A2 k2 ca2) (.slice B2 l2 cb2));have EX1:=ZZ (af he.out GA.out (.bool s1) (.slice A1 k1 ca1) (.slice B1 l1 cb1) (.bool s2) (.slice A2 k2 ca2) (.slice B2 l2 cb2));rw [hPP] at RA1 RB1 EX1;clear hPP;refine hK.out _ _ (HCa.out _ EX1.out) (fun hHeld=>?_);clear hK K
    try simp only [Act.put,lyA,lyB,lyC]
    refine call_p (i:=17) none rfl rfl (by kernel_rfl) (fun K hK=>?_);obtain⟨zz0,zz1,zz2,zz3,zz4,zz5,zf0,zf1,zf2,zf3,zf4,zf5⟩:=ai RB1.out
    go_simp
    clear zz0 zz1 zz2 zz3 zz4 zz5 zf0 zf1 zf2 zf3 zf4 zf5;generalize hWP:World.setCell (World.setCell (World.setCell (World.setCell (World.setCell (World.setCell (X1) ⟨gb,0,none⟩ (.bool s3)) ⟨gb,1,none⟩ (.slice A3 k3 ca3)) ⟨gb,2,none⟩ (.slice B3 l3 cb3)) ⟨gb,3,none⟩ (.bool s4)) ⟨gb,4,none⟩ (.slice A4 k4 ca4)) ⟨gb,5,none⟩ (.slice B4 l4 cb4)=X2;have hPP:put6 X1 gb (.bool s3) (.slice A3 k3 ca3) (.slice B3 l3 cb3) (.bool s4) (.slice A4 k4 ca4) (.slice B4 l4 cb4)=X2:=hWP;clear hWP;have RB2:=ZZ (ag RB1.out (.bool s3) (.slice A3 k3 ca3) (.slice B3 l3 cb3) (.bool s4) (.slice A4 k4 ca4) (.slice B4 l4 cb4));have RA2:=ZZ (ah RA1.out (hne.out) (.bool s3) (.slice A3 k3 ca3) (.slice B3 l3 cb3) (.bool s4) (.slice A4 k4 ca4) (.slice B4 l4 cb4));have EX2:=ZZ (af EX1.out GB.out (.bool s3) (.slice A3 k3 ca3) (.slice B3 l3 cb3) (.bool s4) (.slice A4 k4 ca4) (.slice B4 l4 cb4));rw [hPP] at RB2 RA2 EX2;clear hPP;refine hK.out _ _ (HCa.out _ EX2.out) (fun hHeld=>?_);clear hK K
    try simp only [Act.put,lyA,lyB,lyC]
    refine wpAnyH_done (by kernel_rfl) ?_ _;refine NoPanic.normal ?_;have hb1:=ZZ (show BoxS X2 (.pointer (some ⟨ga,0,none⟩)) xn yn from ⟨ga,s1,A1,k1,ca1,B1,l1,cb1,s2,A2,k2,ca2,B2,l2,cb2,rfl,RA2.out,(SPN.out.mono EX2.out)⟩);have hb2:=ZZ (show BoxS X2 (.pointer (some ⟨gb,0,none⟩)) un vn from ⟨gb,s3,A3,k3,ca3,B3,l3,cb3,s4,A4,k4,ca4,B4,l4,cb4,rfl,RB2.out,(SPM.out.mono EX2.out)⟩);go_wp2_with fail;go_meet;exact⟨hb1.out,hb2.out,EX2⟩
  case rest=>
   obtain⟨⟨ga,s5,A5,k5,ca5,B5,l5,cb5,s6,A6,k6,ca6,B6,l6,cb6,rfl,rs,ns⟩,⟨gb,s7,A7,k7,ca7,B7,l7,cb7,s8,A8,k8,ca8,B8,l8,cb8,rfl,rt,nt⟩,HE7⟩:=hcut;rename World=>W7;have RGA:=ZZ rs;have RGB:=ZZ rt;have SRE:=ZZ ns;have SIM:=ZZ nt;have E67:=ZZ (al EB.out HE7.out)
   replace PP:=ZZ (PP.out.mono E67.out)
   replace PQ:=ZZ (PQ.out.mono E67.out)
   replace PM:=ZZ (PM.out.mono HE7.out)
   replace EW:=ZZ (al EW.out E67.out)
   replace HT:=ZZ (HT.out.mono E67.out)
   clear rs rt ns nt EB HE7 E67 HCa SPN SPM
   have HCG:=ZZ (show ∀W,Ext W7 W→(W.cell? ⟨ga,0,none⟩=some (.bool s5)∧W.cell? ⟨ga,1,none⟩=some (.slice A5 k5 ca5)∧W.cell? ⟨ga,2,none⟩=some (.slice B5 l5 cb5)∧W.cell? ⟨ga,3,none⟩=some (.bool s6)∧W.cell? ⟨ga,4,none⟩=some (.slice A6 k6 ca6)∧W.cell? ⟨ga,5,none⟩=some (.slice B6 l6 cb6))∧(W.cell? ⟨gb,0,none⟩=some (.bool s7)∧W.cell? ⟨gb,1,none⟩=some (.slice A7 k7 ca7)∧W.cell? ⟨gb,2,none⟩=some (.slice B7 l7 cb7)∧W.cell? ⟨gb,3,none⟩=some (.bool s8)∧W.cell? ⟨gb,4,none⟩=some (.slice A8 k8 ca8)∧W.cell? ⟨gb,5,none⟩=some (.slice B8 l8 cb8)) from fun W k=>by
    obtain⟨d0,d1,d2,d3,d4,d5,-⟩:=ai ((k.block _ (lt_of_block RGA.out)).trans RGA.out);obtain⟨f0,f1,f2,f3,f4,f5,-⟩:=ai ((k.block _ (lt_of_block RGB.out)).trans RGB.out);exact⟨⟨d0,d1,d2,d3,d4,d5⟩,f0,f1,f2,f3,f4,f5⟩)
   obtain⟨ia,ea,ib,eb,ic,ec,hr1,hr2,hr3,hrc⟩:=RCC.out Z1.out Z2.out Z3.out;have R1:=ZZ hr1;have R2:=ZZ hr2;have R3:=ZZ hr3;have EB:=ZZ (ae W7);clear hr1 hr2 hr3 RCC;obtain⟨⟨d0,d1,d2,d3,d4,d5⟩,f0,f1,f2,f3,f4,f5⟩:=HCG.out _ (EB.out);go_wp2_with fail;refine(rect_p M HP1.out HK.out _ _ _ p xn yn un vn (by have:=LP.out;omega) _ (PP.out.mono EB.out) (SRE.out.mono EB.out) (SIM.out.mono EB.out) (BX.out.mono (by have:=HMG.out;omega)) (BY.out.mono (by have:=HMG.out;omega)) (BU.out.mono (by have:=HMG.out;omega)) (BV.out.mono (by have:=HMG.out;omega)) (fun h _ _=>rect_ok3 HMG.out (by have:=LP.out;omega) FP.out h (BX.out.mono (by decide)) (BY.out.mono (by decide)) (BU.out.mono (by decide)) (BV.out.mono (by decide))) (ia,ea) R1.out).mono ?_;rintro e b5 ⟨rfl,kq⟩;clear d0 d1 d2 d3 d4 d5 f0 f1 f2 f3 f4 f5
   replace EB:=ZZ (al EB.out kq)
   replace PM:=ZZ (PM.out.mono kq)
   clear kq;obtain⟨⟨d0,d1,d2,d3,d4,d5⟩,f0,f1,f2,f3,f4,f5⟩:=HCG.out _ (EB.out);go_wp2_with fail;refine(rect_p M HP1.out HK.out _ _ _ q xn yn un vn (by have:=LQ.out;omega) _ (PQ.out.mono EB.out) (SRE.out.mono EB.out) (SIM.out.mono EB.out) (BX.out.mono (by have:=HMG.out;omega)) (BY.out.mono (by have:=HMG.out;omega)) (BU.out.mono (by have:=HMG.out;omega)) (BV.out.mono (by have:=HMG.out;omega)) (fun h _ _=>rect_ok3 HMG.out (by have:=LQ.out;omega) FQ.out h (BX.out.mono (by decide)) (BY.out.mono (by decide)) (BU.out.mono (by decide)) (BV.out.mono (by decide))) (ib,eb) R2.out).mono ?_;rintro e b6 ⟨rfl,kq⟩;clear d0 d1 d2 d3 d4 d5 f0 f1 f2 f3 f4 f5
   replace EB:=ZZ (al EB.out kq)
   replace PM:=ZZ (PM.out.mono kq)
   clear kq;obtain⟨⟨d0,d1,d2,d3,d4,d5⟩,f0,f1,f2,f3,f4,f5⟩:=HCG.out _ (EB.out);go_wp2_with fail;refine(rect_p M HP1.out HK.out _ _ _ m xn yn un vn (by have:=LM.out;omega) _ PM.out (SRE.out.mono EB.out) (SIM.out.mono EB.out) (BX.out.mono (by have:=HMG.out;omega)) (BY.out.mono (by have:=HMG.out;omega)) (BU.out.mono (by have:=HMG.out;omega)) (BV.out.mono (by have:=HMG.out;omega)) (fun h _ _=>rect_ok3 HMG.out (by have:=LM.out;omega) FM.out h (BX.out.mono (by decide)) (BY.out.mono (by decide)) (BU.out.mono (by decide)) (BV.out.mono (by decide))) (ic,ec) R3.out).mono ?_;rintro e b7 ⟨rfl,kq⟩;clear d0 d1 d2 d3 d4 d5 f0 f1 f2 f3 f4 f5
   replace EB:=ZZ (al EB.out kq)
   replace PM:=ZZ (PM.out.mono kq)
   clear kq;obtain⟨⟨d0,d1,d2,d3,d4,d5⟩,f0,f1,f2,f3,f4,f5⟩:=HCG.out _ (EB.out);clear d0 d1 d2 d3 d4 d5 f0 f1 f2 f3 f4 f5;clear HCG R1 R2 R3 RGA RGB SRE SIM
   go_upto_region 18 with (fail)
   go_cut [184] (fun u184 wx=>u184=.bool false∧Hid (Ext b7 wx))
   case first=>
    as_aux_lemma=>
    rcases hrc with ⟨rfl,rfl,rfl,hw⟩|⟨hab,hcd⟩
    ·have hic:(ic != ic)=false:=by simp
     go_wp2_with fail;go_meet
     exact⟨rfl,ZZ (ae _)⟩
    ·obtain⟨b1,hb1⟩:∃b,(ea == 0)=b:=⟨_,rfl⟩
     obtain⟨b2,hb2⟩:∃b,(eb == 0)=b:=⟨_,rfl⟩;obtain⟨c1,hc1⟩:∃b,(ea == 120)=b:=⟨_,rfl⟩;obtain⟨c2,hc2⟩:∃b,(eb == 120)=b:=⟨_,rfl⟩;obtain⟨c3,hc3⟩:∃b,(ec == 120)=b:=⟨_,rfl⟩;rw [hb1,hb2] at hab;rw [hc1,hc2,hc3] at hcd;subst hcd
     cases b1 <;> cases b2 <;> (try cases hab) <;> cases c1 <;> cases c2 <;> (try dsimp only [Bool.or_true,Bool.or_false,Bool.true_or,Bool.false_or,Bool.or] at hc3) <;> (go_wp2_with fail;go_meet;exact⟨rfl,ZZ (ae _)⟩)
   case rest=>
    obtain⟨rfl,HXC⟩:=hcut;rename World=>W8
    replace PM:=ZZ (PM.out.mono HXC.out)
    replace EB:=ZZ (al EB.out HXC.out)
    replace EW:=ZZ (al EW.out EB.out)
    replace HT:=ZZ (HT.out.mono EB.out)
    obtain⟨bb,hbb⟩:∃b,boundF m=b:=⟨_,rfl⟩;have BB:=ZZ (show Bq 112101 bb from hbb ▸ bound_two FM.out);have RSQ:=ZZ (show rectE m (-bb) bb (-bb) bb=((m.length:Int) - 1,0) from hbb ▸ places_square Z3.out TM.out);have RBD:=ZZ (show boundE m=(bb,0) from by unfold boundE;rw [if_pos Z3.out,hbb]);clear HXC hbb hrc PP PQ FP FQ BP BQ BX BY BU BV HMU Z1 Z2 EB
    go_upto_region 20 with (fail)
    go_cut [25,16] (fun u25 u16 wx=>u16=.int .i64 0∧BoxN wx u25 bb∧Hid (Ext W8 wx))
    case first=>
     as_aux_lemma=>
     go_wp2_with fail;refine(boundx_m M HP1.out HK.out _ m (by have:=LM.out;omega) _ PM.out (bound_ok2 (by have:=HMG.out;omega) FM.out) (bb,0) RBD.out).mono ?_
     rintro e X ⟨vb,rfl,hv,kq⟩;obtain⟨s5,A5,k5,ca5,B5,l5,cb5,rfl⟩:=hv.form2;have HV:=ZZ hv;have KQ:=ZZ kq;clear hv kq;go_wp2_with fail;go_meet;exact⟨rfl,⟨_,s5,A5,k5,ca5,B5,l5,cb5,rfl,heap_alloc_new _ _,HV.out.mono (ab _ _)⟩,ZZ (al KQ.out (ab _ _))⟩
    case rest=>
     obtain⟨rfl,⟨gd,s5,A5,k5,ca5,B5,l5,cb5,rfl,rd,nd⟩,HE9⟩:=hcut;rename World=>W9;have RD:=ZZ rd;have ND:=ZZ nd
     replace PM:=ZZ (PM.out.mono HE9.out)
     replace EW:=ZZ (al EW.out HE9.out)
     replace HT:=ZZ (HT.out.mono HE9.out)
     clear rd nd HE9 RBD
     have HCb:=ZZ (show ∀W,Ext W9 W→(W.cell? ⟨gd,0,none⟩=some (.bool s5)∧W.cell? ⟨gd,1,none⟩=some (.slice A5 k5 ca5)∧W.cell? ⟨gd,2,none⟩=some (.slice B5 l5 cb5)) from fun W k=>by
      obtain⟨d0,d1,d2,-⟩:=aj ((k.block _ (lt_of_block RD.out)).trans RD.out);exact⟨d0,d1,d2⟩)
     go_upto_region 21 with (fail)
     go_cut [26] (fun u26 wx=>BoxS wx u26 (-bb) bb∧Hid (Ext W9 wx))
     case first=>
      refine wp_region_noPanic ?_;refine wp_region_held_drew (S:=fun W=>(W.cell? ⟨gd,0,none⟩=some (.bool s5)∧W.cell? ⟨gd,1,none⟩=some (.slice A5 k5 ca5)∧W.cell? ⟨gd,2,none⟩=some (.slice B5 l5 cb5))) (by kernel_rfl) (HCb.out _ (ac _)) (fun hHeld=>?_);refine take_a 0 190 ?_;refine take_a 2 192 ?_;refine free_q (J:=fun D y W=>Hid (Ext W9 W)∧Fc (D 1) (Nm W (y 1) (-bb))∧Fc (D 3) (Sp W (y 3) (-bb) bb)∧Fc (D 4) (Nw W9 W (y 4) (.cells #[.bool false,.slice none 0 0,.slice none 0 0,.bool false,.slice none 0 0,.slice none 0 0] 40))) [(1,191),(3,193),(4,26)] 1 rfl (by kernel_rfl) (by kernel_rfl) (by assumption) (fun D y hD=>⟨ZZ (ac _),Fc.off (hD 1 (by simp)),Fc.off (hD 3 (by simp)),Fc.off (hD 4 (by simp))⟩) (met_cons ?mtb1 (met_cons ?mtb3 (met_cons ?mtb4 met_nil))) (fun D y w hD hHeld hJ=>?finb)
      case mtb1=>
       refine Met.mq [] 191 rfl rfl (by kernel_rfl) (by kernel_rfl) (fun D y w hS hJ hD hd K hK=>?_);obtain⟨he,f1,f3,f4⟩:=hJ
       simp only [putsL,allOf,lyD,lyE,lyF,lyG,Act.put,lyA,lyB,lyC]
       go_simp
       go_at_call 11
       refine(neg_q _ bb _ (ND.out.mono he.out)).mono ?_;rintro e X ⟨vr1,rfl,hv,kv⟩
       try go_wp2_with fail
       refine hK.out vr1 _ _ (by kernel_rfl) (HCb.out _ (al he.out kv)) (fun hHeld=>?_);exact⟨ZZ (al he.out kv),Fc.on hv,f3.map (·.mono kv),f4.map (·.mono kv)⟩
      case mtb3=>
       refine Met.mq [1] 193 rfl rfl (by kernel_rfl) (by kernel_rfl) (fun D y w hS hJ hD hd K hK=>?_);obtain⟨he,f1,f3,f4⟩:=hJ
       simp only [putsL,allOf,lyD,lyE,lyF,lyG,Act.put,lyA,lyB,lyC]
       obtain⟨s8,A8,k8,ca8,B8,l8,cb8,hz⟩:=(f1.get (hd 1 (by simp))).form2;have hn1:=f1.get (hd 1 (by simp));rw [hz] at hn1 ⊢
       go_simp
       refine hK.out (.agg #[.bool s8,.slice A8 k8 ca8,.slice B8 l8 cb8,.bool s5,.slice A5 k5 ca5,.slice B5 l5 cb5]) _ _ (by simp only [putsL,allOf,lyD,lyE,lyF,lyG,Act.put,lyA,lyB,lyC];rw [hz]) (HCb.out _ he.out) (fun hHeld=>?_);exact⟨he,f1,Fc.on ⟨_,_,_,_,_,_,rfl,hn1,ND.out.mono he.out⟩,f4⟩
      case mtb4=>
       refine Met.mq [] 26 rfl rfl (by kernel_rfl) (by kernel_rfl) (fun D y w hS hJ hD hd K hK=>?_);obtain⟨he,f1,f3,f4⟩:=hJ
       simp only [putsL,allOf,lyD,lyE,lyF,lyG,Act.put,lyA,lyB,lyC]
       go_simp
       refine hK.out (.pointer (some ⟨w.heap.size,0,none⟩)) _ _ (by kernel_rfl) (HCb.out _ (al he.out (ab _ _))) (fun hHeld=>?_);exact⟨ZZ (al he.out (ab _ _)),f1.map (·.mono (ab _ _)),f3.map (·.mono (ab _ _)),Fc.on (Nw.new he.out _)⟩
      case finb=>
       obtain⟨he,f1,f3,f4⟩:=hJ;have n3:=f3.get (hD 3 (by simp));have n4:=f4.get (hD 4 (by simp))
       simp only [putsL,allOf,lyD,lyE,lyF,lyG,Act.put,lyA,lyB,lyC]
       clear f1 f3 f4 hD;generalize y 3=z3 at n3 ⊢;generalize y 4=z4 at n4 ⊢;obtain⟨s9,A9,k9,ca9,B9,l9,cb9,s10,A10,k10,ca10,B10,l10,cb10,rfl,hn9,hn10⟩:=n3.form;obtain⟨ge,rfl,ha7,hb7⟩:=n4;have H0:=ZZ (show RgS W9 w [(ge,(.cells #[.bool false,.slice none 0 0,.slice none 0 0,.bool false,.slice none 0 0,.slice none 0 0] 40))] [(.agg #[.bool s9,.slice A9 k9 ca9,.slice B9 l9 cb9],-bb),(.agg #[.bool s10,.slice A10 k10 ca10,.slice B10 l10 cb10],bb)] from ⟨he.out,(by intro p hp;simp only [List.mem_cons,List.mem_nil_iff,or_false] at hp;subst hp;exact⟨ha7,hb7⟩),(by intro p hp;simp only [List.mem_cons,List.mem_nil_iff,or_false] at hp;rcases hp with rfl|rfl;exact hn9;exact hn10)⟩);clear n3 hn9 hn10 ha7 hb7 he;refine call_p (i:=5) none rfl rfl (by kernel_rfl) (fun K hK=>?_);obtain⟨zz0,zz1,zz2,zz3,zz4,zz5,zf0,zf1,zf2,zf3,zf4,zf5⟩:=ai (H0.out.keep (ge,(.cells #[.bool false,.slice none 0 0,.slice none 0 0,.bool false,.slice none 0 0,.slice none 0 0] 40)) (by simp)).2
       go_simp
       clear zz0 zz1 zz2 zz3 zz4 zz5 zf0 zf1 zf2 zf3 zf4 zf5;generalize hWP:World.setCell (World.setCell (World.setCell (World.setCell (World.setCell (World.setCell (w) ⟨ge,0,none⟩ (.bool s9)) ⟨ge,1,none⟩ (.slice A9 k9 ca9)) ⟨ge,2,none⟩ (.slice B9 l9 cb9)) ⟨ge,3,none⟩ (.bool s10)) ⟨ge,4,none⟩ (.slice A10 k10 ca10)) ⟨ge,5,none⟩ (.slice B10 l10 cb10)=X1;have hPP:=H0.out.put6 (g:=ge) (s:=false) (A:=none) (k:=0) (ca:=0) (B:=none) (l:=0) (cb:=0) (s':=false) (A':=none) (k':=0) (ca':=0) (B':=none) (l':=0) (cb':=0) (T:=40) (by simp) (.bool s9) (.slice A9 k9 ca9) (.slice B9 l9 cb9) (.bool s10) (.slice A10 k10 ca10) (.slice B10 l10 cb10);rw [show put6 w ge (.bool s9) (.slice A9 k9 ca9) (.slice B9 l9 cb9) (.bool s10) (.slice A10 k10 ca10) (.slice B10 l10 cb10)=X1 from hWP] at hPP;have H1:=ZZ (hPP.sub (ks':=[(ge,.cells #[.bool s9,.slice A9 k9 ca9,.slice B9 l9 cb9,.bool s10,.slice A10 k10 ca10,.slice B10 l10 cb10] 40)]) (by intro p hp;simp only [List.mem_cons,List.mem_nil_iff,or_false] at hp;subst hp;simp));clear hPP hWP;refine hK.out _ _ (HCb.out _ H1.out.ext) (fun hHeld=>?_);clear hK K
       try simp only [Act.put,lyA,lyB,lyC]
       refine wpAnyH_done (by kernel_rfl) ?_ _;refine NoPanic.normal ?_;have hb1:=ZZ (show BoxS _ (.pointer (some ⟨ge,0,none⟩)) (-bb) bb from ⟨ge,s9,A9,k9,ca9,B9,l9,cb9,s10,A10,k10,ca10,B10,l10,cb10,rfl,(H1.out.keep (ge,.cells #[.bool s9,.slice A9 k9 ca9,.slice B9 l9 cb9,.bool s10,.slice A10 k10 ca10,.slice B10 l10 cb10] 40) (by simp)).2,_,_,_,_,_,_,rfl,H1.out.nn (.agg #[.bool s9,.slice A9 k9 ca9,.slice B9 l9 cb9],_) (by simp),H1.out.nn (.agg #[.bool s10,.slice A10 k10 ca10,.slice B10 l10 cb10],_) (by simp)⟩);go_wp2_with fail;go_meet;exact⟨hb1.out,ZZ H1.out.ext⟩
     case rest=>
      obtain⟨⟨gs,s9,A9,k9,ca9,B9,l9,cb9,s10,A10,k10,ca10,B10,l10,cb10,rfl,rs,ns⟩,HE10⟩:=hcut;rename World=>W10;have RS:=ZZ rs;have SS:=ZZ ns
      replace PM:=ZZ (PM.out.mono HE10.out)
      replace EW:=ZZ (al EW.out HE10.out)
      replace HT:=ZZ (HT.out.mono HE10.out)
      have EB:=ZZ (ae W10);clear rs ns HE10 RD ND HCb
      have HCS:=ZZ (show ∀W,Ext W10 W→(W.cell? ⟨gs,0,none⟩=some (.bool s9)∧W.cell? ⟨gs,1,none⟩=some (.slice A9 k9 ca9)∧W.cell? ⟨gs,2,none⟩=some (.slice B9 l9 cb9)∧W.cell? ⟨gs,3,none⟩=some (.bool s10)∧W.cell? ⟨gs,4,none⟩=some (.slice A10 k10 ca10)∧W.cell? ⟨gs,5,none⟩=some (.slice B10 l10 cb10)) from fun W k=>by
       obtain⟨d0,d1,d2,d3,d4,d5,-⟩:=ai ((k.block _ (lt_of_block RS.out)).trans RS.out);exact⟨d0,d1,d2,d3,d4,d5⟩)
      obtain⟨dm,hdm⟩:∃z,(m.length:Int) - 1=z:=⟨_,rfl⟩;have HDM:=ZZ hdm;have HDT:=ZZ (show (((trimF m).length:Int) - 1)=dm from by rw [TM.out];exact hdm)
      replace RSQ:=ZZ (show rectE m (-bb) bb (-bb) bb=(dm,0) from by rw [RSQ.out,hdm])
      have BN:=ZZ BB.out.neg;have hdd:(dm == dm)=true:=by simp
      clear hdm;obtain⟨d0,d1,d2,d3,d4,d5⟩:=HCS.out _ (EB.out);go_wp2_with fail;refine(rect_p M HP1.out HK.out _ _ _ m (-bb) bb (-bb) bb (by have:=LM.out;omega) _ PM.out (SS.out.mono EB.out) (SS.out.mono EB.out) (BN.out.mono (by have:=HMG.out;omega)) (BB.out.mono (by have:=HMG.out;omega)) (BN.out.mono (by have:=HMG.out;omega)) (BB.out.mono (by have:=HMG.out;omega)) (fun h _ _=>rect_ok3 HMG.out LM.out FM.out h BN.out BB.out BN.out BB.out) (dm,0) RSQ.out).mono ?_;rintro e b8 ⟨rfl,kq⟩;clear d0 d1 d2 d3 d4 d5
      replace EB:=ZZ (al EB.out kq)
      replace PM:=ZZ (PM.out.mono kq)
      clear kq;obtain⟨d0,d1,d2,d3,d4,d5⟩:=HCS.out _ (EB.out);clear d0 d1 d2 d3 d4 d5;go_wp2_with fail;refine(deg_q _ m (by have:=LM.out;omega) _ PM.out).mono ?_;rintro e b9 ⟨rfl,kq⟩
      replace EB:=ZZ (al EB.out kq)
      replace PM:=ZZ (PM.out.mono kq)
      clear kq;rw [HDT.out];go_wp2_with fail;refine(awake_p _ (HT.out.mono EB.out)).mono ?_;rintro e wz ⟨rfl,kz⟩;have KZ:=ZZ (al EB.out kz);clear kz;go_wp2_with fail;go_ret;exact⟨rfl,al EW.out KZ.out⟩
end Go.Proofs.YtkoaakefgacokaaGreatDoor
