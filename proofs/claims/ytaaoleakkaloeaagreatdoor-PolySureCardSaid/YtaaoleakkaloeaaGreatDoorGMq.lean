/- The walk of PolySure. Printed by gen_mq.py. -/
import Derived.Test.YtaaoleakkaloeaaGreatDoorGMp
import Derived.Test.YtaaoleakkaloeaaGreatDoorGYz
import Derived.Test.YtaaoleakkaloeaaGreatDoorGYt
import Derived.Deep.DeepCutAuto
set_option linter.unusedVariables false
set_option maxRecDepth 100000
set_option maxHeartbeats 64000000
namespace Go.Proofs.YtaaoleakkaloeaaGreatDoor
open Go Go.RowKit
set_option linter.unusedSimpArgs false
theorem stl_three (W:World) {t0 t1 t2:List UInt8} (h0:t0.length≤maxLen) (h1:t1.length≤maxLen) (h2:t2.length≤maxLen):Stl (W.alloc (.cells #[.string ⟨t0.toArray⟩,.string ⟨t1.toArray⟩,.string ⟨t2.toArray⟩] 53)) (.slice (some ⟨W.heap.size,0,none⟩) 3 3) [t0,t1,t2]:=by
 have hr:=heap_alloc_new W (.cells #[.string ⟨t0.toArray⟩,.string ⟨t1.toArray⟩,.string ⟨t2.toArray⟩] 53);refine .inr ⟨W.heap.size,0,3,rfl,(show 3≤maxLen by decide),fun s hs=>?_,fun i s hi=>?_⟩
 ·rcases List.mem_cons.1 hs with rfl|hs
  ·exact h0
  ·rcases List.mem_cons.1 hs with rfl|hs
   ·exact h1
   ·rcases List.mem_cons.1 hs with rfl|hs
    ·exact h2
    ·cases hs
 ·rw [Nat.zero_add,cell_of_row _ _ _ _ _ _ hr]
  match i,hi with
  | 0,hi=>obtain rfl:=Option.some.inj hi;rfl
  | 1,hi=>obtain rfl:=Option.some.inj hi;rfl
  | 2,hi=>obtain rfl:=Option.some.inj hi;rfl
def Nw (W0 W:World) (v:Value) (o:Obj):Prop:=∃g,v=.pointer (some ⟨g,0,none⟩)∧W0.heap.size≤g∧W.heap[g]?=some o
theorem Nw.mono {W0 W W':World} {v:Value} {o:Obj} (h:Nw W0 W v o) (k:Ext W W'):Nw W0 W' v o:=by
 obtain⟨g,e,h1,h2⟩:=h;exact⟨g,e,h1,(k.block _ (lt_of_block' h2)).trans h2⟩
theorem Nw.new {W0 W:World} (h:Ext W0 W) (o:Obj):Nw W0 (W.alloc o) (.pointer (some ⟨W.heap.size,0,none⟩)) o:=⟨_,rfl,h.size,heap_alloc_new _ _⟩
theorem Nw.ne {W0 W:World} {v:Value} {o:Obj} (h:Nw W0 W v o):v≠.pointer (some ⟨W.heap.size,0,none⟩):=by
 obtain⟨g,rfl,-,h2⟩:=h;intro e
 have:g=W.heap.size:=by injection e with e;injection e with e;injection e
 exact Nat.lt_irrefl _ (this ▸ lt_of_block' h2)
theorem al1 (W:World) (o:Obj):(W.alloc o).drew.heap[W.heap.size]?=some o∧Ext W (W.alloc o).drew:=
 ⟨heap_alloc_new W o,al (ac _ _) (ae _)⟩
theorem tri_three {w:World} {A:Option Addr} {c:Nat} {x y z:Rat} (h:Pl w (.slice A 3 c) [x,y,z]):∃b o,A=some ⟨b,o,none⟩∧Tri w b o x∧Tri w b (o+3) y∧Tri w b (o+6) z:=by
 obtain⟨A',c',e,hc,h3⟩:=h
 injection e with e1 e2 e3
 subst e1 e3
 rcases h3 with ⟨-,h4⟩|⟨b,o,h4,h5⟩
 ·cases h4
 ·exact⟨b,o,h4,h5 0 x rfl,h5 1 y rfl,h5 2 z rfl⟩
theorem SpL.at2 {w:World} {A:Option Addr} {n c i:Nat} {l:List (Rat × Rat)} {a:Rat × Rat} (h:SpL w (.slice A n c) l) (ha:l[i]?=some a):∃b s A1 k ca B1 m cb s' A' k' ca' B' m' cb',A=some ⟨b,0,none⟩∧(w.cell? ⟨b,i*6,none⟩=some (.bool s)∧w.cell? ⟨b,i*6+1,none⟩=some (.slice A1 k ca)∧w.cell? ⟨b,i*6+2,none⟩=some (.slice B1 m cb)∧w.cell? ⟨b,i*6+3,none⟩=some (.bool s')∧w.cell? ⟨b,i*6+4,none⟩=some (.slice A' k' ca')∧w.cell? ⟨b,i*6+5,none⟩=some (.slice B' m' cb'))∧Sp w (.agg #[.bool s,.slice A1 k ca,.slice B1 m cb,.bool s',.slice A' k' ca',.slice B' m' cb']) a.1 a.2:=by
 obtain⟨A',c',e,-,h3⟩:=h
 injection e with e1 e2 e3
 subst e1
 rcases h3 with ⟨-,h4⟩|⟨b,e4,h4⟩
 ·rw [h4] at ha;cases ha
 ·obtain⟨s,A1,k,ca,B1,m,cb,s',A',k',ca',B',m',cb',c0,c1,c2,c3,c4,c5,hs⟩:=h4 i a ha
  exact⟨b,s,A1,k,ca,B1,m,cb,s',A',k',ca',B',m',cb',e4,⟨c0,c1,c2,c3,c4,c5⟩,hs⟩
theorem spl_form2 {w:World} {v:Value} {l:List (Rat × Rat)} (h:SpL w v l):∃A c,v=.slice A l.length c:=by
 obtain⟨A,c,e,-⟩:=h;exact⟨A,c,e⟩
theorem bq_min {M:Nat} {x y:Rat} (h:Bq M x) (k:Bq M y):Bq M (aq x y):=by unfold aq;split <;> assumption
theorem bq_max {M:Nat} {x y:Rat} (h:Bq M x) (k:Bq M y):Bq M (ar x y):=by unfold ar;split <;> assumption
theorem clamp {lo hi z:Rat} (h:lo≤hi):lo≤ar lo (aq hi z)∧ar lo (aq hi z)≤hi:=by
 have h1:=min_le' lo (aq hi z);have h2:=min_le' hi z;unfold ar at *
 split at*<;> grind
theorem sure_c (v0 v1:Value) (l0 l1:List (List UInt8)) (t0 t1 t2:List UInt8) (w:World) (h0:Stl w v0 l0) (h1:Stl w v1 l1) (m0:t0.length≤maxLen) (m1:t1.length≤maxLen) (m2:t2.length≤maxLen) (ht:Tens w):Calls Tryz.prog 5 #[v0,v1,.agg #[.string ⟨t0.toArray⟩,.string ⟨t1.toArray⟩,.string ⟨t2.toArray⟩]] w fun e w'=>e=.returned (.bool true)∧Ext w w':=by
 obtain⟨Q0,c0,rfl,-⟩:=h0.form;obtain⟨Q1,c1,rfl,-⟩:=h1.form;obtain⟨n0,hn0⟩:∃n,l0.length=n:=⟨_,rfl⟩;obtain⟨n1,hn1⟩:∃n,l1.length=n:=⟨_,rfl⟩;rw [hn0] at h0 ⊢;rw [hn1] at h1 ⊢;have HS0:=ZZ h0;have HS1:=ZZ h1;have HT:=ZZ ht;have HN0:=ZZ hn0;have HN1:=ZZ hn1;have HM0:=ZZ m0;have HM1:=ZZ m1;have HM2:=ZZ m2;clear h0 h1 ht hn0 hn1 m0 m1 m2;have EA:=ZZ (al (al (ac w (.cells #[.string ⟨t0.toArray⟩,.string ⟨t1.toArray⟩,.string ⟨t2.toArray⟩] 54)) (ac _ (.cells #[.string ⟨t0.toArray⟩,.string ⟨t1.toArray⟩,.string ⟨t2.toArray⟩] 53))) (ac _ (.cells #[.slice Q0 n0 c0,.slice Q1 n1 c1,(.slice (some ⟨w.heap.size+1,0,none⟩) 3 3)] 22)));have RC0:=ZZ (((al (ac _ (.cells #[.string ⟨t0.toArray⟩,.string ⟨t1.toArray⟩,.string ⟨t2.toArray⟩] 53)) (ac _ (.cells #[.slice Q0 n0 c0,.slice Q1 n1 c1,(.slice (some ⟨w.heap.size+1,0,none⟩) 3 3)] 22))).block _ (lt_of_block' (heap_alloc_new w (.cells #[.string ⟨t0.toArray⟩,.string ⟨t1.toArray⟩,.string ⟨t2.toArray⟩] 54)))).trans (heap_alloc_new w (.cells #[.string ⟨t0.toArray⟩,.string ⟨t1.toArray⟩,.string ⟨t2.toArray⟩] 54)))
 have GL:=ZZ (show Gl (((w.alloc (.cells #[.string ⟨t0.toArray⟩,.string ⟨t1.toArray⟩,.string ⟨t2.toArray⟩] 54)).alloc (.cells #[.string ⟨t0.toArray⟩,.string ⟨t1.toArray⟩,.string ⟨t2.toArray⟩] 53)).alloc (.cells #[.slice Q0 n0 c0,.slice Q1 n1 c1,(.slice (some ⟨w.heap.size+1,0,none⟩) 3 3)] 22)) (.slice (some ⟨w.heap.size+1+1,0,none⟩) 3 3) [(.slice Q0 n0 c0,l0),(.slice Q1 n1 c1,l1),((.slice (some ⟨w.heap.size+1,0,none⟩) 3 3),[t0,t1,t2])] from by
  obtain⟨x0,x1,x2,-⟩:=aj (heap_alloc_new ((w.alloc (.cells #[.string ⟨t0.toArray⟩,.string ⟨t1.toArray⟩,.string ⟨t2.toArray⟩] 54)).alloc (.cells #[.string ⟨t0.toArray⟩,.string ⟨t1.toArray⟩,.string ⟨t2.toArray⟩] 53)) (.cells #[.slice Q0 n0 c0,.slice Q1 n1 c1,(.slice (some ⟨w.heap.size+1,0,none⟩) 3 3)] 22))
  simp only [World.size_alloc] at x0 x1 x2
  have hst:Stl ((w.alloc (.cells #[.string ⟨t0.toArray⟩,.string ⟨t1.toArray⟩,.string ⟨t2.toArray⟩] 54)).alloc (.cells #[.string ⟨t0.toArray⟩,.string ⟨t1.toArray⟩,.string ⟨t2.toArray⟩] 53)) (.slice (some ⟨w.heap.size+1,0,none⟩) 3 3) [t0,t1,t2]:=by
   have h:=stl_three (w.alloc (.cells #[.string ⟨t0.toArray⟩,.string ⟨t1.toArray⟩,.string ⟨t2.toArray⟩] 54)) HM0.out HM1.out HM2.out;rw [World.size_alloc] at h;exact h
  refine⟨_,3,rfl,fun i y hy=>?_⟩
  match i,hy with
  | 0,hy=>obtain rfl:=Option.some.inj hy;exact⟨x0,HS0.out.mono EA.out⟩
  | 1,hy=>obtain rfl:=Option.some.inj hy;exact⟨x1,HS1.out.mono EA.out⟩
  | 2,hy=>obtain rfl:=Option.some.inj hy;exact⟨x2,hst.mono (ac _ _)⟩)
 have hun:undef=.tuple #[]:=rfl;obtain⟨M,hM⟩:∃M:Nat,M=1739600393:=⟨_,rfl⟩;have HMX:=ZZ (show 0<M∧1100<M∧8067≤M∧M≤4294867000∧M≤4294967296∧4001≤M from by omega);have HMG:=ZZ (show 1739600393≤M from by omega);have HK:=ZZ (show M≤4294967296 from by omega);have HP1:=ZZ (show 0<M from by omega);clear hM
 go_enter Tryz.func5,Tryz.ntmps5
 go_wp2_with fail;generalize (((w.alloc (.cells #[.string ⟨t0.toArray⟩,.string ⟨t1.toArray⟩,.string ⟨t2.toArray⟩] 54)).alloc (.cells #[.string ⟨t0.toArray⟩,.string ⟨t1.toArray⟩,.string ⟨t2.toArray⟩] 53)).alloc (.cells #[.slice Q0 n0 c0,.slice Q1 n1 c1,(.slice (some ⟨w.heap.size+1,0,none⟩) 3 3)] 22))=W0 at *
 generalize hwg:w.heap.size=g0 at *;refine(great_p _ [(.slice Q0 n0 c0,l0),(.slice Q1 n1 c1,l1),((.slice (some ⟨g0+1,0,none⟩) 3 3),[t0,t1,t2])] (by simp) _ GL.out).mono ?_;rintro e w1 ⟨rfl,kk1⟩;have K1:=ZZ (al EA.out kk1);have RC1:=ZZ ((kk1.block _ (lt_of_block' RC0.out)).trans RC0.out);obtain⟨d,hd⟩:∃d,greatF [(.slice Q0 n0 c0,l0),(.slice Q1 n1 c1,l1),((.slice (some ⟨g0+1,0,none⟩) 3 3),[t0,t1,t2])]=d:=⟨_,rfl⟩;rw [hd];clear hd kk1 RC0 hwg GL EA
 cases d with
 | true=>
  go_wp2_with fail;refine(awake_p _ (HT.out.mono K1.out)).mono ?_
  rintro e wz ⟨rfl,kz⟩;have KZ:=ZZ (al K1.out kz);clear kz;go_wp2_with fail;go_ret;exact⟨rfl,KZ.out⟩
 | false=>
  rcases Nat.lt_or_ge 14 n0 with z0|z0
  ·have g0:decide ((14:Int)<(n0:Int))=true:=decide_eq_true (by omega)
   have g0':decide (14<n0)=true:=decide_eq_true z0;go_wp2_with fail;refine(awake_p _ (HT.out.mono K1.out)).mono ?_;rintro e wz ⟨rfl,kz⟩;have KZ:=ZZ (al K1.out kz);clear kz;go_wp2_with fail;go_ret;exact⟨rfl,KZ.out⟩
  have ga0:decide ((14:Int)<(n0:Int))=false:=decide_eq_false (by omega);have ga0':decide (14<n0)=false:=decide_eq_false (by omega)
  rcases Nat.lt_or_ge 14 n1 with z1|z1
  ·have gb0:decide ((14:Int)<(n1:Int))=true:=decide_eq_true (by omega)
   have gb0':decide (14<n1)=true:=decide_eq_true z1;go_wp2_with fail;refine(awake_p _ (HT.out.mono K1.out)).mono ?_;rintro e wz ⟨rfl,kz⟩;have KZ:=ZZ (al K1.out kz);clear kz;go_wp2_with fail;go_ret;exact⟨rfl,KZ.out⟩
  have gb0:decide ((14:Int)<(n1:Int))=false:=decide_eq_false (by omega);have gb0':decide (14<n1)=false:=decide_eq_false (by omega);have HLL0:=ZZ (show l0.length≤14 from by have:=HN0.out;omega);have HLL1:=ZZ (show l1.length≤14 from by have:=HN1.out;omega);obtain⟨p,hp⟩:∃a,listF l0=a:=⟨_,rfl⟩;obtain⟨q,hq⟩:∃a,listF l1=a:=⟨_,rfl⟩;have HLA:=ZZ hp;have HLB:=ZZ hq;clear hp hq z0 z1;go_wp2_with fail;refine(list_14 _ l0 _ (HS0.out.mono K1.out) HLL0.out).mono ?_;rintro e w2 ⟨va,xa,rfl,ha,kk2⟩;rw [HLA.out] at ha;have PP:=ZZ ha.1;have LP:=ZZ ha.2.1;have BP:=ZZ ha.2.2;have K2:=ZZ (al K1.out kk2);have RC2:=ZZ ((kk2.block _ (lt_of_block' RC1.out)).trans RC1.out);clear ha kk2 RC1 HLA HLL0 HN0 ga0 ga0' gb0 gb0';go_wp2_with fail;refine(list_14 _ l1 _ (HS1.out.mono K2.out) HLL1.out).mono ?_;rintro e w3 ⟨vb,xb,rfl,hb,kk3⟩;rw [HLB.out] at hb
  replace PP:=ZZ (PP.out.mono kk3)
  have PQ:=ZZ hb.1;have LQ:=ZZ hb.2.1;have BQ:=ZZ hb.2.2;have K3:=ZZ (al K2.out kk3);have RC3:=ZZ ((kk3.block _ (lt_of_block' RC2.out)).trans RC2.out);have EC3:=ZZ (ac w3 (.cells #[.string ⟨t0.toArray⟩,.string ⟨t1.toArray⟩,.string ⟨t2.toArray⟩] 53));have ST3:=ZZ (stl_three w3 HM0.out HM1.out HM2.out);clear hb kk3 K2 RC2 HLB HLL1 HN1 K1 HS0 HS1;have hc0:w3.cell? ⟨g0,0,none⟩=some (.string ⟨t0.toArray⟩):=by rw [cell_of_row _ _ _ _ _ _ RC3.out];rfl
  have hc1:w3.cell? ⟨g0,1,none⟩=some (.string ⟨t1.toArray⟩):=by rw [cell_of_row _ _ _ _ _ _ RC3.out];rfl
  have hc2:w3.cell? ⟨g0,2,none⟩=some (.string ⟨t2.toArray⟩):=by rw [cell_of_row _ _ _ _ _ _ RC3.out];rfl
  go_wp2_with fail;refine(list_14 _ [t0,t1,t2] _ ST3.out (show 3≤14 by decide)).mono ?_
  rintro e W6 ⟨vc,xc,rfl,hc,kk4⟩
  replace kk4:=al EC3.out kk4
  replace PP:=ZZ (PP.out.mono kk4)
  replace PQ:=ZZ (PQ.out.mono kk4)
  have EW:=ZZ (al K3.out kk4)
  replace HT:=ZZ (HT.out.mono EW.out)
  obtain⟨x,yn,z,hxy⟩:∃x y z,listF [t0,t1,t2]=[x,y,z]:=⟨_,_,_,rfl⟩;rw [hxy] at hc;have BX:=ZZ (show Bq 4001 x from hc.2.2 x (by simp));have BY:=ZZ (show Bq 4001 yn from hc.2.2 yn (by simp));have BZ:=ZZ (show Bq 4001 z from hc.2.2 z (by simp));obtain⟨AC,cC,eC,-⟩:=id hc.1
  replace eC:vc=.slice AC 3 cC:=eC
  subst eC;obtain⟨bn,on,rfl,⟨s1,A1,k1,ca1,B1,l1,cb1,x0,x1,x2,hx⟩,⟨s2,A2,k2,ca2,B2,l2,cb2,y0,y1,y2,hy⟩,⟨s3,A3,k3,ca3,B3,l3,cb3,z0,z1,z2,hz⟩⟩:=tri_three hc.1;have NX:=ZZ hx;have NY:=ZZ hy;have NZ:=ZZ hz
  have HCN:=ZZ (show ∀W,Ext W6 W→(W.cell? ⟨bn,on,none⟩=some (.bool s1)∧W.cell? ⟨bn,on+1,none⟩=some (.slice A1 k1 ca1)∧W.cell? ⟨bn,on+2,none⟩=some (.slice B1 l1 cb1))∧(W.cell? ⟨bn,on+3,none⟩=some (.bool s2)∧W.cell? ⟨bn,on+3+1,none⟩=some (.slice A2 k2 ca2)∧W.cell? ⟨bn,on+3+2,none⟩=some (.slice B2 l2 cb2))∧(W.cell? ⟨bn,on+6,none⟩=some (.bool s3)∧W.cell? ⟨bn,on+6+1,none⟩=some (.slice A3 k3 ca3)∧W.cell? ⟨bn,on+6+2,none⟩=some (.slice B3 l3 cb3)) from fun W k=>
   ⟨⟨ao k x0,ao k x1,ao k x2⟩,⟨ao k y0,ao k y1,ao k y2⟩,ao k z0,ao k z1,ao k z2⟩)
  have HLT:=ZZ (World.block_lt_of_cell? W6 _ x0);clear hc hxy kk4 hx hy hz x0 x1 x2 y0 y1 y2 z0 z1 z2 hc0 hc1 hc2 EC3 ST3 RC3 K3 HM0 HM1 HM2;obtain⟨⟨x0,x1,x2⟩,⟨y0,y1,y2⟩,-⟩:=HCN.out W6 (af _)
  go_upto_region 6 with (fail)
  go_cut [13] (fun u13 wx=>∃gs,u13=.pointer (some ⟨gs,0,none⟩)∧Hid (wx.heap[gs]?=some (.cells #[.bool s1,.slice A1 k1 ca1,.slice B1 l1 cb1,.bool s2,.slice A2 k2 ca2,.slice B2 l2 cb2] 49 (0,0)))∧Hid (Ext W6 wx))
  case first=>
   have LB:=HLT.out;have nb1:¬ bn=W6.heap.size:=by omega
   have nb2:¬ W6.heap.size=bn:=by omega
   clear LB;have xA0:=fun (o1:Obj)=>ao (ac W6 o1) x0;have xA1:=fun (o1:Obj)=>ao (ac W6 o1) x1;have xA2:=fun (o1:Obj)=>ao (ac W6 o1) x2;have yA0:=fun (o1:Obj)=>ao (ac W6 o1) y0;have yA1:=fun (o1:Obj)=>ao (ac W6 o1) y1;have yA2:=fun (o1:Obj)=>ao (ac W6 o1) y2
   go_big_region
   go_wp2_with fail;go_meet
   obtain⟨r1,r2⟩:=al1 W6 (.cells #[.bool s1,.slice A1 k1 ca1,.slice B1 l1 cb1,.bool s2,.slice A2 k2 ca2,.slice B2 l2 cb2] 49);exact⟨_,rfl,ZZ r1,ZZ r2⟩
  case rest=>
   obtain⟨gs,rfl,RS,E7⟩:=hcut;rename World=>W7;clear x0 x1 x2 y0 y1 y2
   go_upto_region 7 with (fail)
   obtain⟨lo,hlo⟩:∃l,aq x yn=l:=⟨_,rfl⟩;obtain⟨hi,hhi⟩:∃l,ar x yn=l:=⟨_,rfl⟩;have HLO:=ZZ hlo;have HHI:=ZZ hhi
   have HCa:=ZZ (show ∀W,Ext W7 W→(W.cell? ⟨bn,on,none⟩=some (.bool s1)∧W.cell? ⟨bn,on+1,none⟩=some (.slice A1 k1 ca1)∧W.cell? ⟨bn,on+2,none⟩=some (.slice B1 l1 cb1))∧(W.cell? ⟨bn,on+3,none⟩=some (.bool s2)∧W.cell? ⟨bn,on+3+1,none⟩=some (.slice A2 k2 ca2)∧W.cell? ⟨bn,on+3+2,none⟩=some (.slice B2 l2 cb2)) from fun W k=>by
    obtain⟨u1,u2,-⟩:=HCN.out W (al E7.out k);exact⟨u1,u2⟩)
   clear hlo hhi
   go_cut [14,15] (fun u14 u15 wx=>BoxN wx u14 lo∧BoxN wx u15 hi∧Hid (Ext W7 wx))
   case first=>
    as_aux_lemma=>
    refine wp_region_noPanic ?_;refine wp_region_held_drew (S:=fun W=>(W.cell? ⟨bn,on,none⟩=some (.bool s1)∧W.cell? ⟨bn,on+1,none⟩=some (.slice A1 k1 ca1)∧W.cell? ⟨bn,on+2,none⟩=some (.slice B1 l1 cb1))∧(W.cell? ⟨bn,on+3,none⟩=some (.bool s2)∧W.cell? ⟨bn,on+3+1,none⟩=some (.slice A2 k2 ca2)∧W.cell? ⟨bn,on+3+2,none⟩=some (.slice B2 l2 cb2))) (by kernel_rfl) (HCa.out _ (ae _)) (fun hHeld=>?_);refine take_a 0 80 ?_;refine take_a 3 83 ?_;refine take_a 7 87 ?_;refine take_a 10 90 ?_;refine take_a 1 81 ?_;refine take_a 4 84 ?_;refine take_a 8 88 ?_;refine take_a 11 91 ?_;refine take_a 2 82 ?_;refine take_a 5 85 ?_;refine take_a 9 89 ?_;refine take_a 12 92 ?_;refine free_q (J:=fun D y W=>Hid (Ext W7 W)∧Fc (D 6) (Nm W (y 6) lo)∧Fc (D 13) (Nm W (y 13) hi)∧Fc (D 14) (Nw W7 W (y 14) (.cells #[.bool false,.slice none 0 0,.slice none 0 0] 36))∧Fc (D 15) (Nw W7 W (y 15) (.cells #[.bool false,.slice none 0 0,.slice none 0 0] 36))∧Fc (D 14 && D 15) (y 14≠y 15)) [(6,86),(13,93),(14,14),(15,15)] 2 rfl (by kernel_rfl) (by kernel_rfl) (by assumption) (fun D y hD=>⟨ZZ (ae _),Fc.off (hD 6 (by simp)),Fc.off (hD 13 (by simp)),Fc.off (hD 14 (by simp)),Fc.off (hD 15 (by simp)),Fc.off (by rw [hD 14 (by simp)];rfl)⟩) (met_cons ?mta6 (met_cons ?mta13 (met_cons ?mta14 (met_cons ?mta15 met_nil)))) (fun D y w hD hHeld hJ=>?fina)
    case mta6=>
     refine Met.mq [] 86 rfl rfl (by kernel_rfl) (by kernel_rfl) (fun D y w hS hJ hD hd K hK=>?_);obtain⟨he,f6,f13,f14,f15,fne⟩:=hJ
     simp only [putsL,allOf,List.map_cons,List.map_nil,List.foldl_cons,List.foldl_nil,Act.put,List.setIfInBounds_toArray,List.set_cons_zero,List.set_cons_succ]
     go_simp
     go_at_call 19
     refine(min_q 4001 (by decide) _ _ x yn _ (NX.out.mono (al E7.out he.out)) (NY.out.mono (al E7.out he.out)) BX.out BY.out).mono ?_;rintro e X ⟨vr6,rfl,hv,kv⟩
     try go_wp2_with fail
     refine hK.out vr6 _ _ (by kernel_rfl) (HCa.out _ (al he.out kv)) (fun hHeld=>?_);exact⟨ZZ (al he.out kv),Fc.on (by rw [←HLO.out];exact hv),f13.map (·.mono kv),f14.map (·.mono kv),f15.map (·.mono kv),fne⟩
    case mta13=>
     refine Met.mq [6] 93 rfl rfl (by kernel_rfl) (by kernel_rfl) (fun D y w hS hJ hD hd K hK=>?_);obtain⟨he,f6,f13,f14,f15,fne⟩:=hJ
     simp only [putsL,allOf,List.map_cons,List.map_nil,List.foldl_cons,List.foldl_nil,Act.put,List.setIfInBounds_toArray,List.set_cons_zero,List.set_cons_succ]
     go_simp
     go_at_call 20
     refine(max_q 4001 (by decide) _ _ x yn _ (NX.out.mono (al E7.out he.out)) (NY.out.mono (al E7.out he.out)) BX.out BY.out).mono ?_;rintro e X ⟨vr13,rfl,hv,kv⟩
     try go_wp2_with fail
     refine hK.out vr13 _ _ (by kernel_rfl) (HCa.out _ (al he.out kv)) (fun hHeld=>?_);exact⟨ZZ (al he.out kv),f6.map (·.mono kv),Fc.on (by rw [←HHI.out];exact hv),f14.map (·.mono kv),f15.map (·.mono kv),fne⟩
    case mta14=>
     refine Met.mq [] 14 rfl rfl (by kernel_rfl) (by kernel_rfl) (fun D y w hS hJ hD hd K hK=>?_);obtain⟨he,f6,f13,f14,f15,fne⟩:=hJ
     simp only [putsL,allOf,List.map_cons,List.map_nil,List.foldl_cons,List.foldl_nil,Act.put,List.setIfInBounds_toArray,List.set_cons_zero,List.set_cons_succ]
     go_simp
     refine hK.out (.pointer (some ⟨w.heap.size,0,none⟩)) _ _ (by kernel_rfl) (HCa.out _ (al he.out (ac _ _))) (fun hHeld=>?_);exact⟨ZZ (al he.out (ac _ _)),f6.map (·.mono (ac _ _)),f13.map (·.mono (ac _ _)),Fc.on (Nw.new he.out _),f15.map (·.mono (ac _ _)),fun e=>(Nw.ne (f15.get (Bool.and_eq_true_iff.1 e).2)).symm⟩
    case mta15=>
     refine Met.mq [] 15 rfl rfl (by kernel_rfl) (by kernel_rfl) (fun D y w hS hJ hD hd K hK=>?_);obtain⟨he,f6,f13,f14,f15,fne⟩:=hJ
     simp only [putsL,allOf,List.map_cons,List.map_nil,List.foldl_cons,List.foldl_nil,Act.put,List.setIfInBounds_toArray,List.set_cons_zero,List.set_cons_succ]
     go_simp
     refine hK.out (.pointer (some ⟨w.heap.size,0,none⟩)) _ _ (by kernel_rfl) (HCa.out _ (al he.out (ac _ _))) (fun hHeld=>?_);exact⟨ZZ (al he.out (ac _ _)),f6.map (·.mono (ac _ _)),f13.map (·.mono (ac _ _)),f14.map (·.mono (ac _ _)),Fc.on (Nw.new he.out _),fun e=>Nw.ne (f14.get (Bool.and_eq_true_iff.1 e).1)⟩
    case fina=>
     obtain⟨he,f6,f13,f14,f15,fne⟩:=hJ;have m6:=f6.get (hD 6 (by simp));have m13:=f13.get (hD 13 (by simp));have m14:=f14.get (hD 14 (by simp));have m15:=f15.get (hD 15 (by simp));have mne:=fne.get (by rw [hD 14 (by simp),hD 15 (by simp)];rfl)
     simp only [putsL,allOf,List.map_cons,List.map_nil,List.foldl_cons,List.foldl_nil,Act.put,List.setIfInBounds_toArray,List.set_cons_zero,List.set_cons_succ]
     clear f6 f13 f14 f15 fne hD;generalize y 6=q6 at m6 ⊢;generalize y 13=q13 at m13 ⊢;generalize y 14=q14 at m14 mne ⊢;generalize y 15=q15 at m15 mne ⊢;obtain⟨s5,A5,k5,ca5,B5,l5,cb5,rfl⟩:=m6.form2;obtain⟨s6,A6,k6,ca6,B6,l6,cb6,rfl⟩:=m13.form2;obtain⟨ga,rfl,ha6,hb6⟩:=m14;obtain⟨gb,rfl,ha7,hb7⟩:=m15;have hne:=ZZ (show ga≠gb from fun e=>mne (by rw [e]));have H0:=ZZ (show RgS W7 w [(ga,(.cells #[.bool false,.slice none 0 0,.slice none 0 0] 36)),(gb,(.cells #[.bool false,.slice none 0 0,.slice none 0 0] 36))] [(.agg #[.bool s5,.slice A5 k5 ca5,.slice B5 l5 cb5],lo),(.agg #[.bool s6,.slice A6 k6 ca6,.slice B6 l6 cb6],hi)] from ⟨he.out,(by intro p hp;simp only [List.mem_cons,List.mem_nil_iff,or_false] at hp;rcases hp with rfl|rfl;exact⟨ha6,hb6⟩;exact⟨ha7,hb7⟩),(by intro p hp;simp only [List.mem_cons,List.mem_nil_iff,or_false] at hp;rcases hp with rfl|rfl;exact m6;exact m13)⟩);clear m6 m13 mne ha6 hb6 ha7 hb7 he;refine call_p (i:=16) none rfl rfl (by kernel_rfl) (fun K hK=>?_);obtain⟨zz0,zz1,zz2,zf0,zf1,zf2⟩:=aj (H0.out.keep (ga,(.cells #[.bool false,.slice none 0 0,.slice none 0 0] 36)) (by simp)).2
     go_simp
     clear zz0 zz1 zz2 zf0 zf1 zf2;generalize hWP:(World.setCell (World.setCell (World.setCell w ⟨ga,0,none⟩ (.bool s5)) ⟨ga,1,none⟩ (.slice A5 k5 ca5)) ⟨ga,2,none⟩ (.slice B5 l5 cb5))=X1;have hPP:=H0.out.put (g:=ga) (s:=false) (A:=none) (k:=0) (ca:=0) (B:=none) (l:=0) (cb:=0) (T:=36) (by simp) (.bool s5) (.slice A5 k5 ca5) (.slice B5 l5 cb5);rw [show put3at w ga 0 (.bool s5) (.slice A5 k5 ca5) (.slice B5 l5 cb5)=X1 from hWP] at hPP;have H1:=ZZ (hPP.sub (ks':=[(ga,.cells #[.bool s5,.slice A5 k5 ca5,.slice B5 l5 cb5] 36),(gb,(.cells #[.bool false,.slice none 0 0,.slice none 0 0] 36))]) (by intro p hp;simp only [List.mem_cons,List.mem_nil_iff,or_false] at hp;rcases hp with rfl|rfl <;> simp [hne.out,hne.out.symm]));clear hPP hWP;refine hK.out _ _ (HCa.out _ H1.out.ext) (fun hHeld=>?_);clear hK K
     try simp only [Act.put,lyA,lyB,lyC]
     refine call_p (i:=17) none rfl rfl (by kernel_rfl) (fun K hK=>?_);obtain⟨zz0,zz1,zz2,zf0,zf1,zf2⟩:=aj (H1.out.keep (gb,(.cells #[.bool false,.slice none 0 0,.slice none 0 0] 36)) (by simp)).2
     go_simp
     clear zz0 zz1 zz2 zf0 zf1 zf2;generalize hWP:(World.setCell (World.setCell (World.setCell X1 ⟨gb,0,none⟩ (.bool s6)) ⟨gb,1,none⟩ (.slice A6 k6 ca6)) ⟨gb,2,none⟩ (.slice B6 l6 cb6))=X2;have hPP:=H1.out.put (g:=gb) (s:=false) (A:=none) (k:=0) (ca:=0) (B:=none) (l:=0) (cb:=0) (T:=36) (by simp) (.bool s6) (.slice A6 k6 ca6) (.slice B6 l6 cb6);rw [show put3at X1 gb 0 (.bool s6) (.slice A6 k6 ca6) (.slice B6 l6 cb6)=X2 from hWP] at hPP;have H2:=ZZ (hPP.sub (ks':=[(gb,.cells #[.bool s6,.slice A6 k6 ca6,.slice B6 l6 cb6] 36),(ga,(.cells #[.bool s5,.slice A5 k5 ca5,.slice B5 l5 cb5] 36))]) (by intro p hp;simp only [List.mem_cons,List.mem_nil_iff,or_false] at hp;rcases hp with rfl|rfl <;> simp [hne.out,hne.out.symm]));clear hPP hWP;refine hK.out _ _ (HCa.out _ H2.out.ext) (fun hHeld=>?_);clear hK K
     try simp only [Act.put,lyA,lyB,lyC]
     refine wpAnyH_done (by kernel_rfl) ?_ _;refine NoPanic.normal ?_;have hb1:=ZZ (H2.out.boxn (g:=ga) (s:=s5) (A:=A5) (k:=k5) (ca:=ca5) (B:=B5) (l:=l5) (cb:=cb5) (by simp) (by simp):BoxN _ _ lo);have hb2:=ZZ (H2.out.boxn (g:=gb) (s:=s6) (A:=A6) (k:=k6) (ca:=ca6) (B:=B6) (l:=l6) (cb:=cb6) (by simp) (by simp):BoxN _ _ hi);go_wp2_with fail;go_meet;exact⟨hb1.out,hb2.out,ZZ H2.out.ext⟩
   case rest=>
    obtain⟨⟨g1,s5,A5,k5,ca5,B5,l5,cb5,rfl,R1,hn1⟩,⟨g2,s6,A6,k6,ca6,B6,l6,cb6,rfl,R2,hn2⟩,E8⟩:=hcut;rename World=>W8;have NLO:=ZZ hn1;have NHI:=ZZ hn2;have HR1:=ZZ R1;have HR2:=ZZ R2;have BLO:=ZZ (show Bq 4001 lo from by rw [←HLO.out];exact bq_min BX.out BY.out);have BHI:=ZZ (show Bq 4001 hi from by rw [←HHI.out];exact bq_max BX.out BY.out);clear R1 R2 hn1 hn2 HCa
    go_upto_region 8 with (fail)
    obtain⟨cx,hcx⟩:∃l,ar lo (aq hi z)=l:=⟨_,rfl⟩;have HCX:=ZZ hcx
    have HCb:=ZZ (show ∀W,Ext W8 W→(W.cell? ⟨bn,on+6,none⟩=some (.bool s3)∧W.cell? ⟨bn,on+6+1,none⟩=some (.slice A3 k3 ca3)∧W.cell? ⟨bn,on+6+2,none⟩=some (.slice B3 l3 cb3))∧(W.cell? ⟨g1,0,none⟩=some (.bool s5)∧W.cell? ⟨g1,1,none⟩=some (.slice A5 k5 ca5)∧W.cell? ⟨g1,2,none⟩=some (.slice B5 l5 cb5))∧(W.cell? ⟨g2,0,none⟩=some (.bool s6)∧W.cell? ⟨g2,1,none⟩=some (.slice A6 k6 ca6)∧W.cell? ⟨g2,2,none⟩=some (.slice B6 l6 cb6)) from fun W k=>by
     obtain⟨-,-,u3⟩:=HCN.out W (al E7.out (al E8.out k));obtain⟨d0,d1,d2,-⟩:=aj ((k.block _ (lt_of_block' HR1.out)).trans HR1.out);obtain⟨f0,f1,f2,-⟩:=aj ((k.block _ (lt_of_block' HR2.out)).trans HR2.out);exact⟨u3,⟨d0,d1,d2⟩,f0,f1,f2⟩)
    clear hcx
    go_cut [16] (fun u16 wx=>BoxN wx u16 cx∧Hid (Ext W8 wx))
    case first=>
     as_aux_lemma=>
     refine wp_region_noPanic ?_;refine wp_region_held_drew (S:=fun W=>(W.cell? ⟨bn,on+6,none⟩=some (.bool s3)∧W.cell? ⟨bn,on+6+1,none⟩=some (.slice A3 k3 ca3)∧W.cell? ⟨bn,on+6+2,none⟩=some (.slice B3 l3 cb3))∧(W.cell? ⟨g1,0,none⟩=some (.bool s5)∧W.cell? ⟨g1,1,none⟩=some (.slice A5 k5 ca5)∧W.cell? ⟨g1,2,none⟩=some (.slice B5 l5 cb5))∧(W.cell? ⟨g2,0,none⟩=some (.bool s6)∧W.cell? ⟨g2,1,none⟩=some (.slice A6 k6 ca6)∧W.cell? ⟨g2,2,none⟩=some (.slice B6 l6 cb6))) (by kernel_rfl) (HCb.out _ (ae _)) (fun hHeld=>?_);refine take_a 0 94 ?_;refine take_a 1 95 ?_;refine take_a 2 96 ?_;refine take_a 3 97 ?_;refine take_a 4 98 ?_;refine free_q (J:=fun D y W=>Hid (Ext W8 W)∧Fc (D 5) (Nm W (y 5) (aq hi z))∧Fc (D 6) (Nm W (y 6) cx)∧Fc (D 7) (Nw W8 W (y 7) (.cells #[.bool false,.slice none 0 0,.slice none 0 0] 36))) [(5,99),(6,100),(7,16)] 1 rfl (by kernel_rfl) (by kernel_rfl) (by assumption) (fun D y hD=>⟨ZZ (ae _),Fc.off (hD 5 (by simp)),Fc.off (hD 6 (by simp)),Fc.off (hD 7 (by simp))⟩) (met_cons ?mtb5 (met_cons ?mtb6 (met_cons ?mtb7 met_nil))) (fun D y w hD hHeld hJ=>?finb)
     case mtb5=>
      refine Met.mq [] 99 rfl rfl (by kernel_rfl) (by kernel_rfl) (fun D y w hS hJ hD hd K hK=>?_);obtain⟨he,f5,f6,f7⟩:=hJ
      simp only [putsL,allOf,List.map_cons,List.map_nil,List.foldl_cons,List.foldl_nil,Act.put,List.setIfInBounds_toArray,List.set_cons_zero,List.set_cons_succ]
      go_simp
      go_at_call 19
      refine(min_q 4001 (by decide) _ _ hi z _ (NHI.out.mono he.out) (NZ.out.mono (al E7.out (al E8.out he.out))) BHI.out BZ.out).mono ?_;rintro e X ⟨vr5,rfl,hv,kv⟩
      try go_wp2_with fail
      refine hK.out vr5 _ _ (by kernel_rfl) (HCb.out _ (al he.out kv)) (fun hHeld=>?_);exact⟨ZZ (al he.out kv),Fc.on hv,f6.map (·.mono kv),f7.map (·.mono kv)⟩
     case mtb6=>
      refine Met.mq [5] 100 rfl rfl (by kernel_rfl) (by kernel_rfl) (fun D y w hS hJ hD hd K hK=>?_);obtain⟨he,f5,f6,f7⟩:=hJ
      simp only [putsL,allOf,List.map_cons,List.map_nil,List.foldl_cons,List.foldl_nil,Act.put,List.setIfInBounds_toArray,List.set_cons_zero,List.set_cons_succ]
      go_simp
      go_at_call 20
      refine(max_q 4001 (by decide) _ _ lo (aq hi z) _ (NLO.out.mono he.out) (f5.get (hd 5 (by simp))) BLO.out (bq_min BHI.out BZ.out)).mono ?_;rintro e X ⟨vr6,rfl,hv,kv⟩
      try go_wp2_with fail
      refine hK.out vr6 _ _ (by kernel_rfl) (HCb.out _ (al he.out kv)) (fun hHeld=>?_);exact⟨ZZ (al he.out kv),f5.map (·.mono kv),Fc.on (by rw [←HCX.out];exact hv),f7.map (·.mono kv)⟩
     case mtb7=>
      refine Met.mq [] 16 rfl rfl (by kernel_rfl) (by kernel_rfl) (fun D y w hS hJ hD hd K hK=>?_);obtain⟨he,f5,f6,f7⟩:=hJ
      simp only [putsL,allOf,List.map_cons,List.map_nil,List.foldl_cons,List.foldl_nil,Act.put,List.setIfInBounds_toArray,List.set_cons_zero,List.set_cons_succ]
      go_simp
      refine hK.out (.pointer (some ⟨w.heap.size,0,none⟩)) _ _ (by kernel_rfl) (HCb.out _ (al he.out (ac _ _))) (fun hHeld=>?_);exact⟨ZZ (al he.out (ac _ _)),f5.map (·.mono (ac _ _)),f6.map (·.mono (ac _ _)),Fc.on (Nw.new he.out _)⟩
     case finb=>
      obtain⟨he,f5,f6,f7⟩:=hJ;have m6:=f6.get (hD 6 (by simp));have m7:=f7.get (hD 7 (by simp))
      simp only [putsL,allOf,List.map_cons,List.map_nil,List.foldl_cons,List.foldl_nil,Act.put,List.setIfInBounds_toArray,List.set_cons_zero,List.set_cons_succ]
      clear f5 f6 f7 hD;generalize y 6=q6 at m6 ⊢;generalize y 7=q7 at m7 ⊢;obtain⟨s7,A7,k7,ca7,B7,l7,cb7,rfl⟩:=m6.form2;obtain⟨ga,rfl,ha7,hb7⟩:=m7;have H0:=ZZ (show RgS W8 w [(ga,(.cells #[.bool false,.slice none 0 0,.slice none 0 0] 36))] [(.agg #[.bool s7,.slice A7 k7 ca7,.slice B7 l7 cb7],cx)] from ⟨he.out,(by intro p hp;simp only [List.mem_cons,List.mem_nil_iff,or_false] at hp;subst hp;exact⟨ha7,hb7⟩),(by intro p hp;simp only [List.mem_cons,List.mem_nil_iff,or_false] at hp;subst hp;exact m6)⟩);clear m6 ha7 hb7 he;refine call_p (i:=8) none rfl rfl (by kernel_rfl) (fun K hK=>?_);obtain⟨zz0,zz1,zz2,zf0,zf1,zf2⟩:=aj (H0.out.keep (ga,(.cells #[.bool false,.slice none 0 0,.slice none 0 0] 36)) (by simp)).2
      go_simp
      clear zz0 zz1 zz2 zf0 zf1 zf2;generalize hWP:(World.setCell (World.setCell (World.setCell w ⟨ga,0,none⟩ (.bool s7)) ⟨ga,1,none⟩ (.slice A7 k7 ca7)) ⟨ga,2,none⟩ (.slice B7 l7 cb7))=X1;have hPP:=H0.out.put (g:=ga) (s:=false) (A:=none) (k:=0) (ca:=0) (B:=none) (l:=0) (cb:=0) (T:=36) (by simp) (.bool s7) (.slice A7 k7 ca7) (.slice B7 l7 cb7);rw [show put3at w ga 0 (.bool s7) (.slice A7 k7 ca7) (.slice B7 l7 cb7)=X1 from hWP] at hPP;have H1:=ZZ (hPP.sub (ks':=[(ga,.cells #[.bool s7,.slice A7 k7 ca7,.slice B7 l7 cb7] 36)]) (by intro p hp;simp only [List.mem_cons,List.mem_nil_iff,or_false] at hp;subst hp;simp));clear hPP hWP;refine hK.out _ _ (HCb.out _ H1.out.ext) (fun hHeld=>?_);clear hK K
      try simp only [Act.put,lyA,lyB,lyC]
      refine wpAnyH_done (by kernel_rfl) ?_ _;refine NoPanic.normal ?_;have hb1:=ZZ (H1.out.boxn (g:=ga) (s:=s7) (A:=A7) (k:=k7) (ca:=ca7) (B:=B7) (l:=l7) (cb:=cb7) (by simp) (by simp):BoxN _ _ cx);go_wp2_with fail;go_meet;exact⟨hb1.out,ZZ H1.out.ext⟩
    case rest=>
     obtain⟨⟨g3,s7,A7,k7,ca7,B7,l7,cb7,rfl,R3,hn3⟩,E9⟩:=hcut;rename World=>W9;have E69:=ZZ (al E7.out (al E8.out E9.out))
     replace EW:=ZZ (al EW.out E69.out)
     replace HT:=ZZ (HT.out.mono E69.out)
     replace PP:=ZZ (PP.out.mono E69.out)
     replace PQ:=ZZ (PQ.out.mono E69.out)
     replace NLO:=ZZ (NLO.out.mono E9.out)
     replace NHI:=ZZ (NHI.out.mono E9.out)
     have NCX:=ZZ hn3;have SXY:=ZZ (show Sp W9 (.agg #[.bool s1,.slice A1 k1 ca1,.slice B1 l1 cb1,.bool s2,.slice A2 k2 ca2,.slice B2 l2 cb2]) x yn from ⟨_,_,_,_,_,_,rfl,NX.out.mono E69.out,NY.out.mono E69.out⟩);have HR3:=ZZ R3
     have HCB:=ZZ (show ∀W,Ext W9 W→(W.cell? ⟨gs,0,none⟩=some (.bool s1)∧W.cell? ⟨gs,1,none⟩=some (.slice A1 k1 ca1)∧W.cell? ⟨gs,2,none⟩=some (.slice B1 l1 cb1)∧W.cell? ⟨gs,3,none⟩=some (.bool s2)∧W.cell? ⟨gs,4,none⟩=some (.slice A2 k2 ca2)∧W.cell? ⟨gs,5,none⟩=some (.slice B2 l2 cb2))∧(W.cell? ⟨g1,0,none⟩=some (.bool s5)∧W.cell? ⟨g1,1,none⟩=some (.slice A5 k5 ca5)∧W.cell? ⟨g1,2,none⟩=some (.slice B5 l5 cb5))∧(W.cell? ⟨g2,0,none⟩=some (.bool s6)∧W.cell? ⟨g2,1,none⟩=some (.slice A6 k6 ca6)∧W.cell? ⟨g2,2,none⟩=some (.slice B6 l6 cb6))∧(W.cell? ⟨g3,0,none⟩=some (.bool s7)∧W.cell? ⟨g3,1,none⟩=some (.slice A7 k7 ca7)∧W.cell? ⟨g3,2,none⟩=some (.slice B7 l7 cb7)) from fun W k=>by
      have ka:=al E8.out (al E9.out k);have kb:=al E9.out k;obtain⟨a0,a1,a2,a3,a4,a5,-⟩:=ai ((ka.block _ (lt_of_block' RS.out)).trans RS.out);obtain⟨d0,d1,d2,-⟩:=aj ((kb.block _ (lt_of_block' HR1.out)).trans HR1.out);obtain⟨f0,f1,f2,-⟩:=aj ((kb.block _ (lt_of_block' HR2.out)).trans HR2.out);obtain⟨h0,h1,h2,-⟩:=aj ((k.block _ (lt_of_block' HR3.out)).trans HR3.out);exact⟨⟨a0,a1,a2,a3,a4,a5⟩,⟨d0,d1,d2⟩,⟨f0,f1,f2⟩,h0,h1,h2⟩)
     have BCX:=ZZ (show Bq 4001 cx from by rw [←HCX.out];exact bq_max BLO.out (bq_min BHI.out BZ.out))
     have HLH:=ZZ (show lo≤hi∧lo≤cx∧cx≤hi from by
      have h1:=(min_le' x yn).1;rw [HLO.out,HHI.out] at h1;have h2:=clamp (z:=z) h1;rw [HCX.out] at h2;exact⟨h1,h2⟩)
     obtain⟨sg,hp1,hp2,hp3⟩:=pos_facts (p:=p) (not_big' (by have:=LP.out;omega)) x yn;rw [HLO.out,HHI.out] at hp2;rw [HLO.out,HHI.out] at hp3;have P1:=ZZ hp1;have P2:=ZZ (fun h=>(hp2 h).2.2);have P3:=ZZ hp3;have EB:=ZZ (af W9);have BPM:=ZZ (show ∀c ∈ p,Bq M c from fun c hc=>(BP.out c hc).mono HMX.out.2.2.2.2.2);have BQM:=ZZ (show ∀c ∈ q,Bq M c from fun c hc=>(BQ.out c hc).mono HMX.out.2.2.2.2.2);have HON:=ZZ (show trimF p≠[]→ownOk M p=true from fun h=>(sure_n HMG.out LP.out LQ.out BP.out BQ.out (List.length_pos_iff.2 h)).ownp);have e00:((0:Int) != 0)=false:=rfl;have e01:((0:Int) == 0)=true:=rfl;have e80:((8:Int) != 0)=true:=rfl;have e88:((8:Int) == 8)=true:=rfl;clear hp1 hp2 hp3 R3 hn3 RS HR1 HR2 HR3 NX NY NZ HCN HCb E7 E8 E9 E69 HLT HCX;obtain⟨⟨a0,a1,a2,a3,a4,a5⟩,⟨d0,d1,d2⟩,⟨f0,f1,f2⟩,h0,h1,h2⟩:=HCB.out _ (EB.out);go_wp2_with fail;refine(positive_p M HP1.out HK.out _ _ p x yn (by have:=LP.out;omega) _ (PP.out.mono EB.out) (SXY.out.mono EB.out) (BX.out.mono (by have:=HMX.out;omega)) (BY.out.mono (by have:=HMX.out;omega)) BPM.out (fun _ h=>HON.out h) (sg,0) P1.out).mono ?_;rintro e b1 ⟨rfl,kq⟩;clear a0 a1 a2 a3 a4 a5 d0 d1 d2 f0 f1 f2 h0 h1 h2
     replace EB:=ZZ (al EB.out kq)
     clear kq;obtain⟨⟨a0,a1,a2,a3,a4,a5⟩,⟨d0,d1,d2⟩,⟨f0,f1,f2⟩,h0,h1,h2⟩:=HCB.out _ (EB.out)
     by_cases hsg:sg=0
     ·subst hsg
      have r0:((0:Int) == 0)=true:=rfl
      by_cases hz:trimF p=[]
      ·as_aux_lemma=>
       have HZ:=ZZ (show askF p=8 from by unfold askF;rw [show bigF p=false from not_big' (by have:=LP.out;omega),if_neg Bool.false_ne_true,if_pos hz]);have HQL:=ZZ (show (((trimF p).length:Int) - 1) = -1 from by rw [hz];rfl);have qg:decide ((0:Int)≤-1)=false:=rfl;clear hz;go_wp2_with fail;refine(deg_q _ p (by have:=LP.out;omega) _ (PP.out.mono EB.out)).mono ?_;rintro e b2 ⟨rfl,kq⟩;clear a0 a1 a2 a3 a4 a5 d0 d1 d2 f0 f1 f2 h0 h1 h2
       replace EB:=ZZ (al EB.out kq)
       clear kq;obtain⟨⟨a0,a1,a2,a3,a4,a5⟩,⟨d0,d1,d2⟩,⟨f0,f1,f2⟩,h0,h1,h2⟩:=HCB.out _ (EB.out);rw [HQL.out];clear a0 a1 a2 a3 a4 a5 d0 d1 d2 f0 f1 f2 h0 h1 h2;go_wp2_with fail;refine(roots_p 2000 0 0 (by decide) (by decide) _ p 4 (by omega) (by have:=LP.out;omega) _ (PP.out.mono EB.out) (fun h=>by rw [HZ.out] at h;cases h) ([],8) (by unfold rootsE;rw [if_neg (by rw [HZ.out];decide),HZ.out])).mono ?_;rintro e r3 ⟨vl,rfl,hq,kq⟩
       replace EB:=ZZ (al EB.out kq)
       have PL0:=ZZ hq;clear kq hq;go_wp2_with fail;refine(awake_p _ (HT.out.mono EB.out)).mono ?_;rintro e wz ⟨rfl,kz⟩;have KZ:=ZZ (al EB.out kz);clear kz;go_wp2_with fail;go_ret;exact⟨rfl,al EW.out KZ.out⟩
      ·as_aux_lemma=>
       obtain⟨dp,hdp⟩:∃z,(((trimF p).length:Int) - 1)=z:=⟨_,rfl⟩;have HDP:=ZZ hdp;have qg:decide ((0:Int)≤dp)=true:=decide_eq_true (by have:=List.length_pos_iff.2 hz;omega);have HZ:=ZZ (show askF p=0 from ask_of (not_big' (by have:=LP.out;omega)) hz);have HZ0:=ZZ hz;obtain⟨cn,hcn⟩:∃z,betweenF (ownF p) lo hi=z:=⟨_,rfl⟩;have HCN:=ZZ hcn;clear hdp hcn hz;go_wp2_with fail;refine(deg_q _ p (by have:=LP.out;omega) _ (PP.out.mono EB.out)).mono ?_;rintro e b2 ⟨rfl,kq⟩;clear a0 a1 a2 a3 a4 a5 d0 d1 d2 f0 f1 f2 h0 h1 h2
       replace EB:=ZZ (al EB.out kq)
       clear kq;obtain⟨⟨a0,a1,a2,a3,a4,a5⟩,⟨d0,d1,d2⟩,⟨f0,f1,f2⟩,h0,h1,h2⟩:=HCB.out _ (EB.out);rw [HDP.out];go_wp2_with fail;refine(count_p M HP1.out HK.out _ _ _ p lo hi (by have:=LP.out;omega) _ (PP.out.mono EB.out) (NLO.out.mono EB.out) (NHI.out.mono EB.out) (BLO.out.mono (by have:=HMX.out;omega)) (BHI.out.mono (by have:=HMX.out;omega)) (fun _ _=>HON.out HZ0.out) (cn,0) (by unfold countE;rw [if_pos HZ.out,if_neg (by have:=HLH.out.1;grind),HCN.out])).mono ?_;rintro e b3 ⟨rfl,kq⟩;clear a0 a1 a2 a3 a4 a5 d0 d1 d2 f0 f1 f2 h0 h1 h2
       replace EB:=ZZ (al EB.out kq)
       clear kq;obtain⟨⟨a0,a1,a2,a3,a4,a5⟩,⟨d0,d1,d2⟩,⟨f0,f1,f2⟩,h0,h1,h2⟩:=HCB.out _ (EB.out)
       go_upto_region 14 with (fail)
       go_cut [155] (fun u155 wx=>u155=.bool false∧Hid (Ext b3 wx))
       case first=>
        by_cases hk:cn=0
        ·have r1:(cn == 0)=true:=beq_iff_eq.2 hk
         have HSL:=ZZ (show (evR p lo).num.sign=0 from P3.out trivial HZ0.out (HCN.out.trans hk));clear hk;have EX:=ZZ (af b3);go_wp2_with fail;refine(eval_p M HP1.out _ _ p lo (by have:=LP.out;omega) (by have h1:=LP.out;have h2:=HK.out;have h3:p.length*(M+M+1)≤14*(M+M+1):=Nat.mul_le_mul_right _ h1;omega) _ (PP.out.mono (al EB.out EX.out)) (NLO.out.mono (al EB.out EX.out)) BPM.out (BLO.out.mono (by have:=HMX.out;omega))).mono ?_;rintro e y1 ⟨vv,rfl,hev,kq⟩
         replace EX:=ZZ (al EX.out kq)
         have HEV:=ZZ hev;clear kq hev;obtain⟨s8,A8,k8,ca8,B8,l8,cb8,rfl⟩:=HEV.out.form2;go_wp2_with fail;refine(sign_q' _ (evR p lo) _ 0 HSL.out HEV.out).mono ?_;rintro e y2 ⟨rfl,kq⟩
         replace EX:=ZZ (al EX.out kq)
         clear kq HEV;go_wp2_with fail;go_meet;exact⟨rfl,EX⟩
        ·have r1:(cn == 0)=false:=beq_eq_false_iff_ne.2 hk
         go_wp2_with fail;go_meet
         exact⟨rfl,ZZ (af _)⟩
       case rest=>
        obtain⟨rfl,HXC⟩:=hcut;rename World=>WY;clear a0 a1 a2 a3 a4 a5 d0 d1 d2 f0 f1 f2 h0 h1 h2
        replace EB:=ZZ (al EB.out HXC.out)
        clear HXC HDP HZ HZ0 HCN qg;obtain⟨⟨a0,a1,a2,a3,a4,a5⟩,⟨d0,d1,d2⟩,⟨f0,f1,f2⟩,h0,h1,h2⟩:=HCB.out _ (EB.out);clear a0 a1 a2 a3 a4 a5 d0 d1 d2 f0 f1 f2 h0 h1 h2;clear HCB BX BY BZ BLO BHI BCX NLO NHI NCX SXY HLH P1 P2 P3
        by_cases hz:trimF p=[]
        ·have HZ:=ZZ (show askF p=8 from by unfold askF;rw [show bigF p=false from not_big' (by have:=LP.out;omega),if_neg Bool.false_ne_true,if_pos hz])
         clear hz;go_wp2_with fail;refine(roots_p 2000 0 0 (by decide) (by decide) _ p 4 (by omega) (by have:=LP.out;omega) _ (PP.out.mono EB.out) (fun h=>by rw [HZ.out] at h;cases h) ([],8) (by unfold rootsE;rw [if_neg (by rw [HZ.out];decide),HZ.out])).mono ?_;rintro e r1 ⟨vl,rfl,hq,kq⟩
         replace EB:=ZZ (al EB.out kq)
         have PL0:=ZZ hq;clear kq hq;go_wp2_with fail;refine(awake_p _ (HT.out.mono EB.out)).mono ?_;rintro e wz ⟨rfl,kz⟩;have KZ:=ZZ (al EB.out kz);clear kz;go_wp2_with fail;go_ret;exact⟨rfl,al EW.out KZ.out⟩
        ·have HZ:=ZZ (show askF p=0 from ask_of (not_big' (by have:=LP.out;omega)) hz)
         have HSN:=ZZ (sure_n HMG.out LP.out LQ.out BP.out BQ.out (List.length_pos_iff.2 hz));clear hz;obtain⟨L1,f1,f2⟩:=roots_all HMG.out BP.out (by have:=LP.out;omega) HZ.out 4;have hF:=iso_facts HMG.out BP.out (by have:=LP.out;omega) HZ.out (b1:=4) (b2:=4) (by omega) (by omega) (by omega);obtain⟨L,hL⟩:∃L,rootL p 4=L:=⟨_,rfl⟩;rw [hL] at f2 hF;have F1:=ZZ f1;have F2:=ZZ f2;have HF:=ZZ hF;clear f1 f2 hF hL;go_wp2_with fail;refine(roots_p M 8100 L1 (by have:=HMX.out;omega) (by have:=HMX.out;omega) _ p 4 (by omega) (by have:=LP.out;omega) _ (PP.out.mono EB.out) (fun _=>F1.out) (L,0) F2.out).mono ?_;rintro e r1 ⟨vl,rfl,hq,kq⟩
         replace EB:=ZZ (al EB.out kq)
         have PL:=ZZ hq;clear kq hq;obtain⟨Al,cl,el⟩:=spl_form2 PL.out;subst el;obtain⟨nl,hnl⟩:∃k,L.length=k:=⟨_,rfl⟩;rw [hnl]
         replace PL:=ZZ (show SpL _ (.slice Al nl cl) L from by rw [←hnl];exact PL.out)
         have HNL:=ZZ hnl;clear hnl F1 F2
         replace EW:=ZZ (al EW.out EB.out)
         replace HT:=ZZ (HT.out.mono EB.out)
         replace PP:=ZZ (PP.out.mono EB.out)
         replace PQ:=ZZ (PQ.out.mono EB.out)
         clear EB;skip;go_wp2_with fail
         go_loopg [22] nl (fun k i wr=>∃j,Hid (j+k=nl)∧i=.int .i64 (j:Int)∧Hid (Ext r1 wr))
         case atStart=>exact⟨0,ZZ (Nat.zero_add _),rfl,ZZ (af _)⟩
         case round=>
          as_aux_lemma=>
          obtain⟨j,HJ,rfl,HE⟩:=hrel;rename World=>WR
          rcases Nat.eq_zero_or_pos gk with hz|hz
          ·subst hz
           obtain rfl:j=nl:=HJ.out;have q1:decide ((j:Int)<(j:Int))=false:=decide_eq_false (Int.lt_irrefl _);go_wp2_with fail;refine(awake_p _ (HT.out.mono HE.out)).mono ?_;rintro e wz ⟨rfl,kz⟩;have KZ:=ZZ (al HE.out kz);clear kz;go_wp2_with fail;go_ret;exact⟨rfl,al EW.out KZ.out⟩
          have hjn:j<nl:=by have:=HJ.out;omega
          have q1:decide ((j:Int)<(nl:Int))=true:=decide_eq_true (by omega);have q4:(j:Int)<(nl:Int):=by omega
          have q5:(0:Int)≤(j:Int):=by omega
          have HJ30:=ZZ (show j<10000 from by have h1:=HF.out.small;have h2:=HNL.out;omega)
          have q6:IntKind.i64.wrap ((j:Int)+1)=(((j+1:Nat)):Int):=by
           have:=HJ30.out
           rw [show (((j+1:Nat)):Int)=(j:Int)+1 by omega];exact IntWalk.i64_in _ (by omega)
          obtain⟨⟨u,v⟩,ha⟩:∃a,L[j]?=some a:=⟨L[j]'(by rw [HNL.out];exact hjn),List.getElem?_eq_getElem _⟩;obtain⟨hle,hb1,hb2,hor⟩:=HF.out.one j _ ha;have BU:=ZZ (show Bq M u from hb1);have BV:=ZZ (show Bq M v from hb2);obtain⟨t,t',h,s,ht1,ht2,ht3,ht4,ht5⟩:=sure_facts (q:=q) LP.out LQ.out HZ.out hle hor;have S1:=ZZ (show signE p u v q=(t,0) from ht1);have S2:=ZZ (show signE (commonF p q) u v p=(t',h) from ht2);have S3:=ZZ ht3;have S4:=ZZ (show positiveE q u v=(s,0) from ht4);have S5:=ZZ ht5;obtain⟨bl,s11,A11,k11,ca11,B11,l11,cb11,s12,A12,k12,ca12,B12,l12,cb12,rfl,⟨c0,c1,c2,c3,c4,c5⟩,hsp⟩:=PL.out.at2 ha;have SP:=ZZ (show Sp r1 (.agg #[.bool s11,.slice A11 k11 ca11,.slice B11 l11 cb11,.bool s12,.slice A12 k12 ca12,.slice B12 l12 cb12]) u v from hsp);have HCL:=ZZ (show ∀W,Ext r1 W→W.cell? ⟨bl,j*6,none⟩=some (.bool s11)∧W.cell? ⟨bl,j*6+1,none⟩=some (.slice A11 k11 ca11)∧W.cell? ⟨bl,j*6+2,none⟩=some (.slice B11 l11 cb11)∧W.cell? ⟨bl,j*6+3,none⟩=some (.bool s12)∧W.cell? ⟨bl,j*6+4,none⟩=some (.slice A12 k12 ca12)∧W.cell? ⟨bl,j*6+5,none⟩=some (.slice B12 l12 cb12) from fun W k=>⟨ao k c0,ao k c1,ao k c2,ao k c3,ao k c4,ao k c5⟩);have HZ9:=ZZ hz;clear ha hz hjn hle hb1 hb2 hor ht1 ht2 ht3 ht4 ht5 hsp c0 c1 c2 c3 c4 c5;have EB:=HE;obtain⟨c0,c1,c2,c3,c4,c5⟩:=HCL.out _ (EB.out);go_wp2_with fail
          refine(sign_at_p M HP1.out HK.out _ _ _ p q u v (by have:=LP.out;omega) (by have:=LQ.out;omega) _ (PP.out.mono EB.out) (SP.out.mono EB.out) (PQ.out.mono EB.out) BU.out BV.out BPM.out BQM.out (fun _ _=>HSN.out.ownp) (fun _ _ _=>HSN.out.s1) HSN.out.l1 (t,0) S1.out).mono ?_;rintro e x1 ⟨rfl,kq⟩;clear c0 c1 c2 c3 c4 c5
          replace EB:=ZZ (al EB.out kq)
          clear kq;obtain⟨c0,c1,c2,c3,c4,c5⟩:=HCL.out _ (EB.out);go_wp2_with fail;refine(gcd_p M HP1.out (by have:=HK.out;omega) _ _ p q (by have:=LP.out;omega) (by have:=LQ.out;omega) _ (PP.out.mono EB.out) (PQ.out.mono EB.out) (fun _=>HSN.out.com) (commonF p q,0) (by unfold gcdE;rw [not_big' (by have:=LP.out;omega),not_big' (by have:=LQ.out;omega)];rfl)).mono ?_;rintro e x2 ⟨vg,rfl,hg,kq⟩;clear c0 c1 c2 c3 c4 c5
          replace EB:=ZZ (al EB.out kq)
          have PG:=ZZ hg;clear kq hg;obtain⟨c0,c1,c2,c3,c4,c5⟩:=HCL.out _ (EB.out);go_wp2_with fail;refine(sign_at_p M HP1.out HK.out _ _ _ (commonF p q) p u v (by have:=HSN.out.lg;omega) (by have:=LP.out;omega) _ PG.out (SP.out.mono EB.out) (PP.out.mono EB.out) BU.out BV.out HSN.out.bg BPM.out (fun _ _=>HSN.out.owng) (fun _ _ _=>HSN.out.s2) HSN.out.l2 (t',h) S2.out).mono ?_;rintro e x3 ⟨rfl,kq⟩;clear c0 c1 c2 c3 c4 c5
          replace EB:=ZZ (al EB.out kq)
          replace PG:=ZZ (PG.out.mono kq)
          clear kq;obtain⟨c0,c1,c2,c3,c4,c5⟩:=HCL.out _ (EB.out);clear PG
          go_upto_region 27 with (fail)
          go_cut [215] (fun u215 wx=>u215=.bool false∧Hid (Ext x3 wx))
          case first=>
           obtain⟨b1,hb1⟩:∃b,(t == 0)=b:=⟨_,rfl⟩;obtain⟨b2,hb2⟩:∃b,(h == 0)=b:=⟨_,rfl⟩
           by_cases hq:trimF q=[]
           ·have HQL:=ZZ (show (((trimF q).length:Int) - 1) = -1 from by rw [hq];rfl)
            have qg:decide ((0:Int)≤-1)=false:=rfl;clear hq
            cases b1 <;> cases b2
            ·go_wp2_with fail
             go_meet;exact⟨rfl,ZZ (af _)⟩
            ·go_wp2_with fail
             refine(deg_q _ q (by have:=LQ.out;omega) _ (PQ.out.mono EB.out)).mono ?_;rintro e y1 ⟨rfl,ky⟩;rw [HQL.out];have KY:=ZZ ky;clear ky;go_wp2_with fail;go_meet;exact⟨rfl,KY⟩
            ·go_wp2_with fail
             refine(deg_q _ q (by have:=LQ.out;omega) _ (PQ.out.mono EB.out)).mono ?_;rintro e y1 ⟨rfl,ky⟩;rw [HQL.out];have KY:=ZZ ky;clear ky;go_wp2_with fail;go_meet;exact⟨rfl,KY⟩
            ·go_wp2_with fail
             go_meet;exact⟨rfl,ZZ (af _)⟩
           ·have hbb:b1=b2:=by
             have h1:=S3.out hq;rw [←hb1,←hb2]
             by_cases g:t=0
             ·rw [beq_iff_eq.2 g,beq_iff_eq.2 (h1.1 g)]
             ·rw [beq_eq_false_iff_ne.2 g,beq_eq_false_iff_ne.2 fun k=>g (h1.2 k)]
            subst hbb;clear hq
            cases b1 <;> (go_wp2_with fail;go_meet;exact⟨rfl,ZZ (af _)⟩)
          case rest=>
           obtain⟨rfl,HXC⟩:=hcut;rename World=>WY;clear c0 c1 c2 c3 c4 c5
           replace EB:=ZZ (al EB.out HXC.out)
           obtain⟨c0,c1,c2,c3,c4,c5⟩:=HCL.out _ (EB.out);go_wp2_with fail;refine(positive_p M HP1.out HK.out _ _ q u v (by have:=LQ.out;omega) _ (PQ.out.mono EB.out) (SP.out.mono EB.out) BU.out BV.out BQM.out (fun _ h=>HSN.out.ownq h) (s,0) S4.out).mono ?_;rintro e z4 ⟨rfl,kq⟩;clear c0 c1 c2 c3 c4 c5
           replace EB:=ZZ (al EB.out kq)
           clear kq;obtain⟨c0,c1,c2,c3,c4,c5⟩:=HCL.out _ (EB.out);clear c0 c1 c2 c3 c4 c5
           by_cases hs0:s=0
           ·subst hs0
            go_wp2_with fail
            go_roundg (gk - 1)
            case measure=>have:=HZ9.out;omega
            case rel=>exact⟨j+1,ZZ (by have:=HJ.out;have:=HZ9.out;omega),rfl,ZZ EB.out⟩
           ·have q7:(s != 0)=true:=bne_iff_ne.2 hs0
            obtain rfl:t=s:=S5.out hs0;have q8:(t != t)=false:=by simp
            go_wp2_with fail
            go_roundg (gk - 1)
            case measure=>have:=HZ9.out;omega
            case rel=>exact⟨j+1,ZZ (by have:=HJ.out;have:=HZ9.out;omega),rfl,ZZ EB.out⟩
     ·as_aux_lemma=>
      have r0:(sg == 0)=false:=beq_eq_false_iff_ne.2 hsg;have r1:(sg != 0)=true:=bne_iff_ne.2 hsg;have r2:(sg != sg)=false:=by simp
      have HS1:=ZZ (P2.out hsg cx HLH.out.2.1 HLH.out.2.2);have HS2:=ZZ (P2.out hsg lo Rat.le_refl HLH.out.1);clear hsg;go_wp2_with fail;refine(eval_p M HP1.out _ _ p cx (by have:=LP.out;omega) (by have h1:=LP.out;have h2:=HK.out;have h3:p.length*(M+M+1)≤14*(M+M+1):=Nat.mul_le_mul_right _ h1;omega) _ (PP.out.mono EB.out) (NCX.out.mono EB.out) BPM.out (BCX.out.mono (by have:=HMX.out;omega))).mono ?_;rintro e b2 ⟨vv1,rfl,hev,kq⟩;clear a0 a1 a2 a3 a4 a5 d0 d1 d2 f0 f1 f2 h0 h1 h2
      replace EB:=ZZ (al EB.out kq)
      have HEV1:=ZZ hev;clear kq hev;obtain⟨⟨a0,a1,a2,a3,a4,a5⟩,⟨d0,d1,d2⟩,⟨f0,f1,f2⟩,h0,h1,h2⟩:=HCB.out _ (EB.out);obtain⟨s8,A8,k8,ca8,B8,l8,cb8,rfl⟩:=HEV1.out.form2;go_wp2_with fail;refine(sign_q' _ (evR p cx) _ sg HS1.out HEV1.out).mono ?_;rintro e b3 ⟨rfl,kq⟩;clear a0 a1 a2 a3 a4 a5 d0 d1 d2 f0 f1 f2 h0 h1 h2
      replace EB:=ZZ (al EB.out kq)
      clear kq;obtain⟨⟨a0,a1,a2,a3,a4,a5⟩,⟨d0,d1,d2⟩,⟨f0,f1,f2⟩,h0,h1,h2⟩:=HCB.out _ (EB.out);clear HEV1;go_wp2_with fail;refine(eval_p M HP1.out _ _ p lo (by have:=LP.out;omega) (by have h1:=LP.out;have h2:=HK.out;have h3:p.length*(M+M+1)≤14*(M+M+1):=Nat.mul_le_mul_right _ h1;omega) _ (PP.out.mono EB.out) (NLO.out.mono EB.out) BPM.out (BLO.out.mono (by have:=HMX.out;omega))).mono ?_;rintro e b4 ⟨vv3,rfl,hev,kq⟩;clear a0 a1 a2 a3 a4 a5 d0 d1 d2 f0 f1 f2 h0 h1 h2
      replace EB:=ZZ (al EB.out kq)
      have HEV3:=ZZ hev;clear kq hev;obtain⟨⟨a0,a1,a2,a3,a4,a5⟩,⟨d0,d1,d2⟩,⟨f0,f1,f2⟩,h0,h1,h2⟩:=HCB.out _ (EB.out);obtain⟨s8,A8,k8,ca8,B8,l8,cb8,rfl⟩:=HEV3.out.form2;go_wp2_with fail;refine(sign_q' _ (evR p lo) _ sg HS2.out HEV3.out).mono ?_;rintro e b5 ⟨rfl,kq⟩;clear a0 a1 a2 a3 a4 a5 d0 d1 d2 f0 f1 f2 h0 h1 h2
      replace EB:=ZZ (al EB.out kq)
      clear kq;obtain⟨⟨a0,a1,a2,a3,a4,a5⟩,⟨d0,d1,d2⟩,⟨f0,f1,f2⟩,h0,h1,h2⟩:=HCB.out _ (EB.out);clear HEV3;clear a0 a1 a2 a3 a4 a5 d0 d1 d2 f0 f1 f2 h0 h1 h2;clear HCB BX BY BZ BLO BHI BCX NLO NHI NCX SXY HLH P1 P2 P3
      by_cases hz:trimF p=[]
      ·have HZ:=ZZ (show askF p=8 from by unfold askF;rw [show bigF p=false from not_big' (by have:=LP.out;omega),if_neg Bool.false_ne_true,if_pos hz])
       clear hz;go_wp2_with fail;refine(roots_p 2000 0 0 (by decide) (by decide) _ p 4 (by omega) (by have:=LP.out;omega) _ (PP.out.mono EB.out) (fun h=>by rw [HZ.out] at h;cases h) ([],8) (by unfold rootsE;rw [if_neg (by rw [HZ.out];decide),HZ.out])).mono ?_;rintro e r1 ⟨vl,rfl,hq,kq⟩
       replace EB:=ZZ (al EB.out kq)
       have PL0:=ZZ hq;clear kq hq;go_wp2_with fail;refine(awake_p _ (HT.out.mono EB.out)).mono ?_;rintro e wz ⟨rfl,kz⟩;have KZ:=ZZ (al EB.out kz);clear kz;go_wp2_with fail;go_ret;exact⟨rfl,al EW.out KZ.out⟩
      ·have HZ:=ZZ (show askF p=0 from ask_of (not_big' (by have:=LP.out;omega)) hz)
       have HSN:=ZZ (sure_n HMG.out LP.out LQ.out BP.out BQ.out (List.length_pos_iff.2 hz));clear hz;obtain⟨L1,f1,f2⟩:=roots_all HMG.out BP.out (by have:=LP.out;omega) HZ.out 4;have hF:=iso_facts HMG.out BP.out (by have:=LP.out;omega) HZ.out (b1:=4) (b2:=4) (by omega) (by omega) (by omega);obtain⟨L,hL⟩:∃L,rootL p 4=L:=⟨_,rfl⟩;rw [hL] at f2 hF;have F1:=ZZ f1;have F2:=ZZ f2;have HF:=ZZ hF;clear f1 f2 hF hL;go_wp2_with fail;refine(roots_p M 8100 L1 (by have:=HMX.out;omega) (by have:=HMX.out;omega) _ p 4 (by omega) (by have:=LP.out;omega) _ (PP.out.mono EB.out) (fun _=>F1.out) (L,0) F2.out).mono ?_;rintro e r1 ⟨vl,rfl,hq,kq⟩
       replace EB:=ZZ (al EB.out kq)
       have PL:=ZZ hq;clear kq hq;obtain⟨Al,cl,el⟩:=spl_form2 PL.out;subst el;obtain⟨nl,hnl⟩:∃k,L.length=k:=⟨_,rfl⟩;rw [hnl]
       replace PL:=ZZ (show SpL _ (.slice Al nl cl) L from by rw [←hnl];exact PL.out)
       have HNL:=ZZ hnl;clear hnl F1 F2
       replace EW:=ZZ (al EW.out EB.out)
       replace HT:=ZZ (HT.out.mono EB.out)
       replace PP:=ZZ (PP.out.mono EB.out)
       replace PQ:=ZZ (PQ.out.mono EB.out)
       clear EB;skip;go_wp2_with fail
       go_loopg [22] nl (fun k i wr=>∃j,Hid (j+k=nl)∧i=.int .i64 (j:Int)∧Hid (Ext r1 wr))
       case atStart=>exact⟨0,ZZ (Nat.zero_add _),rfl,ZZ (af _)⟩
       case round=>
        as_aux_lemma=>
        obtain⟨j,HJ,rfl,HE⟩:=hrel;rename World=>WR
        rcases Nat.eq_zero_or_pos gk with hz|hz
        ·subst hz
         obtain rfl:j=nl:=HJ.out;have q1:decide ((j:Int)<(j:Int))=false:=decide_eq_false (Int.lt_irrefl _);go_wp2_with fail;refine(awake_p _ (HT.out.mono HE.out)).mono ?_;rintro e wz ⟨rfl,kz⟩;have KZ:=ZZ (al HE.out kz);clear kz;go_wp2_with fail;go_ret;exact⟨rfl,al EW.out KZ.out⟩
        have hjn:j<nl:=by have:=HJ.out;omega
        have q1:decide ((j:Int)<(nl:Int))=true:=decide_eq_true (by omega);have q4:(j:Int)<(nl:Int):=by omega
        have q5:(0:Int)≤(j:Int):=by omega
        have HJ30:=ZZ (show j<10000 from by have h1:=HF.out.small;have h2:=HNL.out;omega)
        have q6:IntKind.i64.wrap ((j:Int)+1)=(((j+1:Nat)):Int):=by
         have:=HJ30.out
         rw [show (((j+1:Nat)):Int)=(j:Int)+1 by omega];exact IntWalk.i64_in _ (by omega)
        obtain⟨⟨u,v⟩,ha⟩:∃a,L[j]?=some a:=⟨L[j]'(by rw [HNL.out];exact hjn),List.getElem?_eq_getElem _⟩;obtain⟨hle,hb1,hb2,hor⟩:=HF.out.one j _ ha;have BU:=ZZ (show Bq M u from hb1);have BV:=ZZ (show Bq M v from hb2);obtain⟨t,t',h,s,ht1,ht2,ht3,ht4,ht5⟩:=sure_facts (q:=q) LP.out LQ.out HZ.out hle hor;have S1:=ZZ (show signE p u v q=(t,0) from ht1);have S2:=ZZ (show signE (commonF p q) u v p=(t',h) from ht2);have S3:=ZZ ht3;have S4:=ZZ (show positiveE q u v=(s,0) from ht4);have S5:=ZZ ht5;obtain⟨bl,s11,A11,k11,ca11,B11,l11,cb11,s12,A12,k12,ca12,B12,l12,cb12,rfl,⟨c0,c1,c2,c3,c4,c5⟩,hsp⟩:=PL.out.at2 ha;have SP:=ZZ (show Sp r1 (.agg #[.bool s11,.slice A11 k11 ca11,.slice B11 l11 cb11,.bool s12,.slice A12 k12 ca12,.slice B12 l12 cb12]) u v from hsp);have HCL:=ZZ (show ∀W,Ext r1 W→W.cell? ⟨bl,j*6,none⟩=some (.bool s11)∧W.cell? ⟨bl,j*6+1,none⟩=some (.slice A11 k11 ca11)∧W.cell? ⟨bl,j*6+2,none⟩=some (.slice B11 l11 cb11)∧W.cell? ⟨bl,j*6+3,none⟩=some (.bool s12)∧W.cell? ⟨bl,j*6+4,none⟩=some (.slice A12 k12 ca12)∧W.cell? ⟨bl,j*6+5,none⟩=some (.slice B12 l12 cb12) from fun W k=>⟨ao k c0,ao k c1,ao k c2,ao k c3,ao k c4,ao k c5⟩);have HZ9:=ZZ hz;clear ha hz hjn hle hb1 hb2 hor ht1 ht2 ht3 ht4 ht5 hsp c0 c1 c2 c3 c4 c5;have EB:=HE;obtain⟨c0,c1,c2,c3,c4,c5⟩:=HCL.out _ (EB.out);go_wp2_with fail
        refine(sign_at_p M HP1.out HK.out _ _ _ p q u v (by have:=LP.out;omega) (by have:=LQ.out;omega) _ (PP.out.mono EB.out) (SP.out.mono EB.out) (PQ.out.mono EB.out) BU.out BV.out BPM.out BQM.out (fun _ _=>HSN.out.ownp) (fun _ _ _=>HSN.out.s1) HSN.out.l1 (t,0) S1.out).mono ?_;rintro e x1 ⟨rfl,kq⟩;clear c0 c1 c2 c3 c4 c5
        replace EB:=ZZ (al EB.out kq)
        clear kq;obtain⟨c0,c1,c2,c3,c4,c5⟩:=HCL.out _ (EB.out);go_wp2_with fail;refine(gcd_p M HP1.out (by have:=HK.out;omega) _ _ p q (by have:=LP.out;omega) (by have:=LQ.out;omega) _ (PP.out.mono EB.out) (PQ.out.mono EB.out) (fun _=>HSN.out.com) (commonF p q,0) (by unfold gcdE;rw [not_big' (by have:=LP.out;omega),not_big' (by have:=LQ.out;omega)];rfl)).mono ?_;rintro e x2 ⟨vg,rfl,hg,kq⟩;clear c0 c1 c2 c3 c4 c5
        replace EB:=ZZ (al EB.out kq)
        have PG:=ZZ hg;clear kq hg;obtain⟨c0,c1,c2,c3,c4,c5⟩:=HCL.out _ (EB.out);go_wp2_with fail;refine(sign_at_p M HP1.out HK.out _ _ _ (commonF p q) p u v (by have:=HSN.out.lg;omega) (by have:=LP.out;omega) _ PG.out (SP.out.mono EB.out) (PP.out.mono EB.out) BU.out BV.out HSN.out.bg BPM.out (fun _ _=>HSN.out.owng) (fun _ _ _=>HSN.out.s2) HSN.out.l2 (t',h) S2.out).mono ?_;rintro e x3 ⟨rfl,kq⟩;clear c0 c1 c2 c3 c4 c5
        replace EB:=ZZ (al EB.out kq)
        replace PG:=ZZ (PG.out.mono kq)
        clear kq;obtain⟨c0,c1,c2,c3,c4,c5⟩:=HCL.out _ (EB.out);clear PG
        go_upto_region 27 with (fail)
        go_cut [215] (fun u215 wx=>u215=.bool false∧Hid (Ext x3 wx))
        case first=>
         obtain⟨b1,hb1⟩:∃b,(t == 0)=b:=⟨_,rfl⟩;obtain⟨b2,hb2⟩:∃b,(h == 0)=b:=⟨_,rfl⟩
         by_cases hq:trimF q=[]
         ·have HQL:=ZZ (show (((trimF q).length:Int) - 1) = -1 from by rw [hq];rfl)
          have qg:decide ((0:Int)≤-1)=false:=rfl;clear hq
          cases b1 <;> cases b2
          ·go_wp2_with fail
           go_meet;exact⟨rfl,ZZ (af _)⟩
          ·go_wp2_with fail
           refine(deg_q _ q (by have:=LQ.out;omega) _ (PQ.out.mono EB.out)).mono ?_;rintro e y1 ⟨rfl,ky⟩;rw [HQL.out];have KY:=ZZ ky;clear ky;go_wp2_with fail;go_meet;exact⟨rfl,KY⟩
          ·go_wp2_with fail
           refine(deg_q _ q (by have:=LQ.out;omega) _ (PQ.out.mono EB.out)).mono ?_;rintro e y1 ⟨rfl,ky⟩;rw [HQL.out];have KY:=ZZ ky;clear ky;go_wp2_with fail;go_meet;exact⟨rfl,KY⟩
          ·go_wp2_with fail
           go_meet;exact⟨rfl,ZZ (af _)⟩
         ·have hbb:b1=b2:=by
           have h1:=S3.out hq;rw [←hb1,←hb2]
           by_cases g:t=0
           ·rw [beq_iff_eq.2 g,beq_iff_eq.2 (h1.1 g)]
           ·rw [beq_eq_false_iff_ne.2 g,beq_eq_false_iff_ne.2 fun k=>g (h1.2 k)]
          subst hbb;clear hq
          cases b1 <;> (go_wp2_with fail;go_meet;exact⟨rfl,ZZ (af _)⟩)
        case rest=>
         obtain⟨rfl,HXC⟩:=hcut;rename World=>WY;clear c0 c1 c2 c3 c4 c5
         replace EB:=ZZ (al EB.out HXC.out)
         obtain⟨c0,c1,c2,c3,c4,c5⟩:=HCL.out _ (EB.out);go_wp2_with fail;refine(positive_p M HP1.out HK.out _ _ q u v (by have:=LQ.out;omega) _ (PQ.out.mono EB.out) (SP.out.mono EB.out) BU.out BV.out BQM.out (fun _ h=>HSN.out.ownq h) (s,0) S4.out).mono ?_;rintro e z4 ⟨rfl,kq⟩;clear c0 c1 c2 c3 c4 c5
         replace EB:=ZZ (al EB.out kq)
         clear kq;obtain⟨c0,c1,c2,c3,c4,c5⟩:=HCL.out _ (EB.out);clear c0 c1 c2 c3 c4 c5
         by_cases hs0:s=0
         ·subst hs0
          go_wp2_with fail
          go_roundg (gk - 1)
          case measure=>have:=HZ9.out;omega
          case rel=>exact⟨j+1,ZZ (by have:=HJ.out;have:=HZ9.out;omega),rfl,ZZ EB.out⟩
         ·have q7:(s != 0)=true:=bne_iff_ne.2 hs0
          obtain rfl:t=s:=S5.out hs0;have q8:(t != t)=false:=by simp
          go_wp2_with fail
          go_roundg (gk - 1)
          case measure=>have:=HZ9.out;omega
          case rel=>exact⟨j+1,ZZ (by have:=HJ.out;have:=HZ9.out;omega),rfl,ZZ EB.out⟩
end Go.Proofs.YtaaoleakkaloeaaGreatDoor
