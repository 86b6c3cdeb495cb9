/- Count; a number beyond all roots; powers of two. Printed by gen_yi.py. -/
import Derived.Test.YtkoaakefgacokaaGreatDoorGYh
set_option linter.unusedVariables false
set_option linter.unusedSimpArgs false
set_option maxRecDepth 100000
set_option maxHeartbeats 64000000
namespace Go.Proofs.YtkoaakefgacokaaGreatDoor
open Go.RowKit
def countE (p:List Rat) (lo hi:Rat):Int × Int:=if askF p=0 then (if hi<lo then (0,7) else (betweenF (ownF p) lo hi,0)) else (0,askF p)
theorem count_p (M:Nat) (hM0:0<M) (hM:M≤5400000000) (v vl vh:Value) (p:List Rat) (lo hi:Rat) (hlp:p.length≤90000) (w:World) (hp:Pl w v p) (hlo:Nm w vl lo) (hhi:Nm w vh hi) (blo:Bq M lo) (bhi:Bq M hi) (hok:askF p=0→¬ hi<lo→ownOk M p=true) (D:Int × Int) (hD:countE p lo hi=D):Calls Tryz.prog 14 #[v,vl,vh] w fun e w'=>e=.returned (.tuple #[.int .i64 D.1,.int .i64 D.2])∧Ext w w':=by
 obtain⟨s1,A1,k1,ca1,B1,l1,cb1,rfl⟩:=hlo.form2;obtain⟨s2,A2,k2,ca2,B2,l2,cb2,rfl⟩:=hhi.form2;have HLP:=ZZ hlp;have HOL:=ZZ (show (ownF p).length≤1000000 from Nat.le_trans (own_len p) (by omega));obtain⟨zb,hzb⟩:∃z,betweenF (ownF p) lo hi=z:=⟨_,rfl⟩;have HBZ:=ZZ hzb;clear hzb;have HM0:=ZZ hM0;have HM:=ZZ hM;have BLO:=ZZ blo;have BHI:=ZZ bhi;have HOK:=ZZ hok;have HD:=ZZ hD;have x1:=ab w (.cells #[.bool s1,.slice A1 k1 ca1,.slice B1 l1 cb1] 38);have x2:=ab (w.alloc (.cells #[.bool s1,.slice A1 k1 ca1,.slice B1 l1 cb1] 38)) (.cells #[.bool s2,.slice A2 k2 ca2,.slice B2 l2 cb2] 38);have r1:=(x2.block _ (lt_of_block (heap_alloc_new w (.cells #[.bool s1,.slice A1 k1 ca1,.slice B1 l1 cb1] 38)))).trans (heap_alloc_new w (.cells #[.bool s1,.slice A1 k1 ca1,.slice B1 l1 cb1] 38));have r2:=heap_alloc_new (w.alloc (.cells #[.bool s1,.slice A1 k1 ca1,.slice B1 l1 cb1] 38)) (.cells #[.bool s2,.slice A2 k2 ca2,.slice B2 l2 cb2] 38);rw [World.size_alloc] at r2;have EW:=ZZ (al x1 x2);have N10:=ZZ (hlo.mono EW.out);have N20:=ZZ (hhi.mono EW.out);have HP:=ZZ (hp.mono EW.out);have R1:=ZZ r1;have R2:=ZZ r2;obtain⟨z,hz⟩:∃z,askF p=z:=⟨_,rfl⟩;have HZ:=ZZ hz;clear hlp hM0 hM blo bhi hok hD x1 x2 r1 r2 hp hlo hhi hz
 go_enter Tryz.func14,Tryz.ntmps14
 go_upto_region 1 with (fail)
 generalize (w.alloc (.cells #[.bool s1,.slice A1 k1 ca1,.slice B1 l1 cb1] _)).alloc (.cells #[.bool s2,.slice A2 k2 ca2,.slice B2 l2 cb2] _)=W0 at *;obtain⟨ga,hga⟩:∃g,w.heap.size=g:=⟨_,rfl⟩;obtain⟨gb,hgb⟩:∃g,w.heap.size+1=g:=⟨_,rfl⟩;rw [hgb,hga]
 have HC0:=ZZ (show ∀W,Ext W0 W→W.cell? ⟨ga,0,none⟩=some (.bool s1)∧W.cell? ⟨ga,1,none⟩=some (.slice A1 k1 ca1)∧W.cell? ⟨ga,2,none⟩=some (.slice B1 l1 cb1)∧W.cell? ⟨gb,0,none⟩=some (.bool s2)∧W.cell? ⟨gb,1,none⟩=some (.slice A2 k2 ca2)∧W.cell? ⟨gb,2,none⟩=some (.slice B2 l2 cb2) from fun W k=>by
  obtain⟨y0,y1,y2,-⟩:=aj ((k.block _ (lt_of_block R1.out)).trans R1.out);obtain⟨u0,u1,u2,-⟩:=aj ((k.block _ (lt_of_block R2.out)).trans R2.out);rw [←hgb,←hga];exact⟨y0,y1,y2,u0,u1,u2⟩)
 clear hga hgb R1 R2;go_wp2_with fail;refine(asked_p _ p (by have:=HLP.out;omega) _ HP.out z HZ.out).mono ?_;rintro e w3 ⟨rfl,k3⟩;have K3:=ZZ k3;clear k3
 by_cases h0:z=0
 ·subst h0
  obtain⟨p0,p1,p2,r0,r1,r2⟩:=HC0.out _ K3.out;have z0:((0:Int) == 0)=true:=rfl;go_wp2_with fail;refine(cmp_q M (by have:=HM.out;omega) _ _ lo hi _ (N10.out.mono K3.out) (N20.out.mono K3.out) BLO.out BHI.out).mono ?_;rintro e w4 ⟨rfl,k4⟩;have K4:=ZZ (al K3.out k4);clear k4 p0 p1 p2 r0 r1 r2;obtain⟨c,hc⟩:∃c,cmpQ lo hi=c:=⟨_,rfl⟩;rw [hc]
  by_cases hlt:hi<lo
  ·have q1:decide ((0:Int)<c)=true:=by rw [←hc,(cmpQ_pos lo hi).2 hlt];rfl
   have HDE:=ZZ (show D=(0,7) from by rw [←HD.out];unfold countE;rw [if_pos HZ.out,if_pos hlt]);clear hc hlt;go_wp2_with fail;refine bodyPost_ret (v:=.tuple #[.int .i64 0,.int .i64 7]) (by simp [results,Tryz.f14]) rfl ?_;rw [HDE.out];exact⟨rfl,al EW.out K4.out⟩
  ·have q1:decide ((0:Int)<c)=false:=by
    rw [←hc];refine decide_eq_false fun h=>hlt ((cmpQ_pos lo hi).1 ?_);unfold cmpQ at h ⊢;have h2:=Int.sign_trichotomy (lo.num*↑hi.den - hi.num*↑lo.den);omega
   have HDE:=ZZ (show D=(zb,0) from by rw [←HD.out];unfold countE;rw [if_pos HZ.out,if_neg hlt,HBZ.out]);have HOW:=ZZ (HOK.out HZ.out hlt);have HCB:=ZZ (show cB M (ownF p)=true from by have h:=HOW.out;unfold ownOk at h;rw [Bool.and_eq_true] at h;exact h.2);clear hc hlt
   go_upto_region 6 with (fail)
   obtain⟨W4,hW4⟩:∃W,W=w4:=⟨_,rfl⟩;rw [←hW4] at K4 ⊢;have HC:=ZZ (show ∀W,Ext W4 W→W.cell? ⟨ga,0,none⟩=some (.bool s1)∧W.cell? ⟨ga,1,none⟩=some (.slice A1 k1 ca1)∧W.cell? ⟨ga,2,none⟩=some (.slice B1 l1 cb1)∧W.cell? ⟨gb,0,none⟩=some (.bool s2)∧W.cell? ⟨gb,1,none⟩=some (.slice A2 k2 ca2)∧W.cell? ⟨gb,2,none⟩=some (.slice B2 l2 cb2) from fun W k=>HC0.out W (al K4.out k));have N1:=ZZ (N10.out.mono K4.out);have N2:=ZZ (N20.out.mono K4.out);clear hW4;have hun:undef=.tuple #[]:=rfl;refine wp_region_noPanic ?_;refine wp_region_held_drew (S:=fun W=>W.cell? ⟨ga,0,none⟩=some (.bool s1)∧W.cell? ⟨ga,1,none⟩=some (.slice A1 k1 ca1)∧W.cell? ⟨ga,2,none⟩=some (.slice B1 l1 cb1)∧W.cell? ⟨gb,0,none⟩=some (.bool s2)∧W.cell? ⟨gb,1,none⟩=some (.slice A2 k2 ca2)∧W.cell? ⟨gb,2,none⟩=some (.slice B2 l2 cb2)) (by kernel_rfl) (HC.out _ (ac _)) (fun hHeld=>?_);refine take_a 0 22 ?_;refine take_a 2 24 ?_;refine take_a 3 25 ?_;refine call_p (i:=1) (some 23) rfl rfl (by kernel_rfl) (fun K hK=>?_)
   go_simp
   go_at_call 39
   refine(own_p M HM0.out HM.out _ p (by have:=HLP.out;omega) _ (HP.out.mono (al K4.out (ac _))) HOW.out).mono ?_;rintro e w5 ⟨v5,rfl,h5,k5⟩;obtain⟨A5,cap5,e5,-⟩:=id h5;obtain⟨n5,hn5⟩:∃n,(ownF p).length=n:=⟨_,rfl⟩;rw [hn5] at e5;subst e5;have HN5:=ZZ hn5;clear hn5;have H5:=ZZ h5;have hx1:=ZZ (show Ext W4 w5 from al (ac _) k5);clear h5 k5
   try go_wp2_with fail
   refine hK.out _ _ (HC.out _ hx1.out) (fun hHeld=>?_);clear hK K
   try simp only [Act.put,lyA,lyB,lyC]
   refine call_p (i:=4) (some 26) rfl rfl (by kernel_rfl) (fun K hK=>?_)
   go_simp
   go_at_call 38
   refine(between_p M HM0.out HM.out _ _ _ (ownF p) lo hi HOL.out HCB.out _ H5.out (N1.out.mono hx1.out) (N2.out.mono hx1.out) BLO.out BHI.out).mono ?_;rintro e w6 ⟨rfl,k6⟩;rw [HBZ.out];have hx2:=ZZ (al hx1.out k6);clear k6
   try go_wp2_with fail
   refine hK.out _ _ (HC.out _ hx2.out) (fun hHeld=>?_);clear hK K
   try simp only [Act.put,lyA,lyB,lyC]
   refine take_a 5 6 ?_;refine take_a 6 7 ?_;refine wpAnyH_done (by kernel_rfl) ?_ _;refine NoPanic.normal ?_;go_wp2_with fail;refine bodyPost_ret (v:=.tuple #[.int .i64 zb,.int .i64 0]) (by simp [results,Tryz.f14]) rfl ?_;rw [HDE.out];exact⟨rfl,al EW.out (al K4.out hx2.out)⟩
 ·have z0:(z == 0)=false:=beq_eq_false_iff_ne.2 h0
  have z1:(z != 0)=true:=bne_iff_ne.2 h0;have HDE:=ZZ (show D=(0,z) from by rw [←HD.out];unfold countE;rw [if_neg (by rw [HZ.out];exact h0),HZ.out]);clear h0;go_wp2_with fail;refine bodyPost_ret (v:=.tuple #[.int .i64 0,.int .i64 z]) (by simp [results,Tryz.f14]) rfl ?_;rw [HDE.out];exact⟨rfl,al EW.out K3.out⟩
theorem pl_put3b {W:World} {b o n c g:Nat} {L:List Rat} {x y z:Value} {T:TypeId} (h:Pl W (.slice (some ⟨b,o,none⟩) n c) L) (hr:W.heap[g]?=some (.cells #[x,y,z] T (0,0))) (hb:b≠g) (a a' a'':Value) (hx:∀q v,Nm W v q→Nm (put3at W g 0 a a' a'') v q):Pl (put3at W g 0 a a' a'') (.slice (some ⟨b,o,none⟩) n c) L:=by
 obtain⟨A,cap,e,hc,hA⟩:=h;refine⟨A,cap,e,hc,?_⟩
 injection e with e1 e2 e3
 rcases hA with h|⟨b',o',e4,ht⟩
 ·exact .inl h
 ·rw [←e1] at e4
  injection e4 with e5
  injection e5 with e6 e7
  subst e6 e7;refine .inr ⟨b,o,e1.symm,fun i q hq=>?_⟩;obtain⟨s,A1,k,ca,B,m,cb,c0,c1,c2,hn⟩:=ht i q hq;exact⟨s,A1,k,ca,B,m,cb,by rw [put3at_cell hr _ _ _ b _ (.inl hb)];exact c0,by rw [put3at_cell hr _ _ _ b _ (.inl hb)];exact c1,by rw [put3at_cell hr _ _ _ b _ (.inl hb)];exact c2,hx _ _ hn⟩
def mostF (l:List Rat) (j:Nat):Rat:=(l.take j).foldl (fun m c=>ar m (absQ c)) 0
theorem most_succ (l:List Rat) (j:Nat) (q:Rat) (h:l[j]?=some q):mostF l (j+1)=ar (mostF l j) (absQ q):=by
 unfold mostF;rw [List.take_add_one,h,Option.toList_some,List.foldl_append];rfl
def boundF (p:List Rat):Rat:=mostF (monicF p) ((monicF p).length - 1)+1
theorem bq_most {M:Nat} (hM:0<M) {l:List Rat} (h:∀x ∈ l,Bq M x) (j:Nat):Bq M (mostF l j):=by
 induction j with
 | zero=>exact bq_zero M hM
 | succ j ih=>
  rcases Nat.lt_or_ge j l.length with hj|hj
  ·rw [most_succ l j _ (List.getElem?_eq_getElem hj)]
   unfold ar
   split
   ·exact bq_absQ (h _ (List.getElem_mem _))
   ·exact ih
  ·have e:mostF l (j+1)=mostF l j:=by unfold mostF;rw [List.take_of_length_le hj,List.take_of_length_le (by omega)]
   rw [e];exact ih
def boundOk (M:Nat) (p:List Rat):Bool:=smB M p && smB M (monicF p)
theorem bound_p (M:Nat) (hM0:0<M) (hM:M≤5400000000) (v:Value) (p:List Rat) (hlp:p.length≤100000) (w:World) (hp:Pl w v p) (hne:monicF p≠[]) (hok:boundOk M p=true):Calls Tryz.prog 37 #[v] w fun e w'=>∃v',e=.returned v'∧Nm w' v' (boundF p)∧Ext w w':=by
 unfold boundOk at hok;rw [Bool.and_eq_true] at hok;have HSP:=ZZ (sm_of hok.1);have HSM:=ZZ (sm_of hok.2);have HP:=ZZ hp;have HLP:=ZZ hlp;have HM0:=ZZ hM0;have HM:=ZZ hM;have BONE:=ZZ (show Bq 64 (1:Rat) from bq_int 1 (by decide) (by decide));have x1:=ab w (.cells #[.bool false,.slice none 0 0,.slice none 0 0] 38);have x2:=ab (w.alloc (.cells #[.bool false,.slice none 0 0,.slice none 0 0] 38)) (.cells #[.bool false,.slice none 0 0,.slice none 0 0] 38);have r1:=(x2.block _ (lt_of_block (heap_alloc_new w (.cells #[.bool false,.slice none 0 0,.slice none 0 0] 38)))).trans (heap_alloc_new w (.cells #[.bool false,.slice none 0 0,.slice none 0 0] 38));have r2:=heap_alloc_new (w.alloc (.cells #[.bool false,.slice none 0 0,.slice none 0 0] 38)) (.cells #[.bool false,.slice none 0 0,.slice none 0 0] 38);rw [World.size_alloc] at r2;have EW:=ZZ (al x1 x2);have R1:=ZZ r1;have R2:=ZZ r2;obtain⟨Q,hQ⟩:∃Q,monicF p=Q:=⟨_,rfl⟩;rw [hQ] at hne HSM;obtain⟨n,hn⟩:∃n,Q.length=n+1:=⟨Q.length - 1,by have:=List.length_pos_iff.2 hne;omega⟩;have HQ:=ZZ hQ;have HN:=ZZ hn;have HNL:=ZZ (show n≤100000 by have h1:=monic_len p;rw [hQ,hn] at h1;omega);have HBD:=ZZ (show boundF p=mostF Q n+1 by unfold boundF;rw [hQ,hn,Nat.add_sub_cancel]);clear hok hp hlp hM0 hM x1 x2 r1 r2 hQ hn hne
 go_enter Tryz.func37,Tryz.ntmps37
 go_upto_region 2 with (fail)
 generalize (w.alloc (.cells #[.bool false,.slice none 0 0,.slice none 0 0] _)).alloc (.cells #[.bool false,.slice none 0 0,.slice none 0 0] _)=W0 at *;obtain⟨gr,hgr⟩:∃g,w.heap.size=g:=⟨_,rfl⟩;obtain⟨gm,hgm⟩:∃g,w.heap.size+1=g:=⟨_,rfl⟩;have HGD:=ZZ (show w.heap.size≤gr∧w.heap.size≤gm∧gr≠gm from ⟨by omega,by omega,by omega⟩);rw [hgr] at R1;rw [hgm] at R2;rw [hgm,hgr];clear hgr hgm;go_wp2_with fail;refine(monic_p M (by have:=HM.out;omega) _ p (by have:=HLP.out;omega) _ (HP.out.mono EW.out) HSP.out).mono ?_;rintro e w3 ⟨v3,rfl,h3,k3⟩;rw [HQ.out] at h3;obtain⟨A,cap,e3,hcap,hA⟩:=h3.pl;rw [HN.out] at e3 hcap;subst e3;have H3:=ZZ h3.pl;have K3:=ZZ k3;have HA:=ZZ hA
 have HBG0:=ZZ (show ∀b o,A=some ⟨b,o,none⟩→b≠gm from fun b o e=>by
  rcases h3 with ⟨e1,h⟩|⟨g,hg,h⟩
  ·have:=HN.out;rw [h] at this;cases this
  ·obtain⟨cp,cur,e1,-⟩:=h
   injection e1 with e2 e4 e5
   rw [e] at e2
   injection e2 with e6
   injection e6 with e7
   have:=lt_of_block R2.out
   omega)
 have q3:IntKind.i64.wrap ((n:Int)+1 - 1)=(n:Int):=by have h:=HNL.out;rw [show (n:Int)+1 - 1=n by omega];exact IntWalk.i64_in _ (by omega)
 have q3':IntKind.i64.wrap (n:Int)=(n:Int):=by have h:=HNL.out;exact IntWalk.i64_in _ (by omega)
 have q6:(n:Int)≤(cap:Int):=by omega
 have q7:(0:Int)≤(n:Int):=by omega
 clear h3 k3 hA hcap;go_wp2_with fail
 go_loopg [14] n (fun k i wr=>∃j,Hid (j+k=n)∧i=.int .i64 (j:Int)∧Hid (∃(s2:Bool) (A2:Option Addr) (k2 ca2:Nat) (B2:Option Addr) (l2 cb2:Nat),wr.heap[gm]?=some (.cells #[.bool s2,.slice A2 k2 ca2,.slice B2 l2 cb2] 38 (0,0))∧Nm wr (.agg #[.bool s2,.slice A2 k2 ca2,.slice B2 l2 cb2]) (mostF Q j))∧Hid (wr.heap[gr]?=some (.cells #[.bool false,.slice none 0 0,.slice none 0 0] 38 (0,0)))∧Hid (Pl wr (.slice A (n+1) cap) Q)∧Hid (Ext w wr))
 case atStart=>exact⟨0,ZZ (Nat.zero_add _),rfl,ZZ ⟨_,_,_,_,_,_,_,(K3.out.block _ (lt_of_block R2.out)).trans R2.out,Nm.zero _⟩,ZZ ((K3.out.block _ (lt_of_block R1.out)).trans R1.out),H3,ZZ (al EW.out K3.out)⟩
 case round=>
  obtain⟨j,HJ,rfl,HMO,HRG,HPL,HE⟩:=hrel;rename World=>WR;obtain⟨s2,A2,k2,ca2,B2,l2,cb2,hm2,hn2⟩:=HMO.out;obtain⟨mo,hmo⟩:∃m,mostF Q j=m:=⟨_,rfl⟩;rw [hmo] at hn2;have HMOE:=ZZ hmo;have BMO:=ZZ (show Bq M mo from by rw [←hmo];exact bq_most HM0.out HSM.out j);have HM2:=ZZ hm2;have NM0:=ZZ hn2;clear hmo hm2 hn2 HMO
  rcases Nat.eq_zero_or_pos gk with hz|hz
  ·subst hz
   obtain rfl:j=n:=HJ.out;have q1:decide ((j:Int)<(j:Int))=false:=decide_eq_false (Int.lt_irrefl _)
   go_upto_region 8 with (fail)
   have NM:=NM0
   have HC8:=ZZ (show ∀W,Ext WR W→W.cell? ⟨gm,0,none⟩=some (.bool s2)∧W.cell? ⟨gm,1,none⟩=some (.slice A2 k2 ca2)∧W.cell? ⟨gm,2,none⟩=some (.slice B2 l2 cb2) from fun W k=>by
    obtain⟨y0,y1,y2,-⟩:=aj ((k.block _ (lt_of_block HM2.out)).trans HM2.out);exact⟨y0,y1,y2⟩)
   have HRR:=ZZ (show ∀W,Ext WR W→W.heap[gr]?=some (.cells #[.bool false,.slice none 0 0,.slice none 0 0] 38 (0,0)) from fun W k=>(k.block _ (lt_of_block HRG.out)).trans HRG.out);have hun:undef=.tuple #[]:=rfl;refine wp_region_noPanic ?_;refine region_L (S:=fun W=>W.cell? ⟨gm,0,none⟩=some (.bool s2)∧W.cell? ⟨gm,1,none⟩=some (.slice A2 k2 ca2)∧W.cell? ⟨gm,2,none⟩=some (.slice B2 l2 cb2)) 3 (by kernel_rfl) (HC8.out _ (ac _)) (fun hHeld=>?_);refine take_b 0 23 ?_;refine call_L (i:=1) 24 rfl rfl (by kernel_rfl) (fun K hK=>?_)
   go_simp
   go_at_call 15
   refine(int_q 1 (by decide) (by decide) _).mono ?_;rintro e w5 ⟨v5,rfl,h5,kk5⟩;obtain⟨s5,A5,k5,ca5,B5,l5,cb5,rfl⟩:=h5.form2;have H5:=ZZ (show Nm w5 (.agg #[.bool s5,.slice A5 k5 ca5,.slice B5 l5 cb5]) 1 from h5);have hx1:=ZZ (show Ext WR w5 from al (ac _) kk5);clear h5 kk5
   try go_wp2_with fail
   refine hK.out _ _ (HC8.out _ hx1.out) (fun hHeld=>?_);clear hK K
   try simp only [Act.put,lyA,lyB,lyC]
   refine call_L (i:=2) 25 rfl rfl (by kernel_rfl) (fun K hK=>?_)
   go_simp
   go_at_call 21
   refine(add_q (M+64) (by have:=HM.out;omega) _ _ mo 1 _ (NM.out.mono hx1.out) H5.out (BMO.out.mono (by omega)) (BONE.out.mono (by omega))).mono ?_;rintro e w6 ⟨v6,rfl,h6,kk6⟩;obtain⟨s6,A6,k6,ca6,B6,l6,cb6,rfl⟩:=h6.form2;have H6:=ZZ h6;have hx2:=ZZ (al hx1.out kk6);clear h6 kk6
   try go_wp2_with fail
   refine hK.out _ _ (HC8.out _ hx2.out) (fun hHeld=>?_);clear hK K
   try simp only [Act.put,lyA,lyB,lyC]
   refine last_L rfl (by kernel_rfl) (by kernel_rfl) (fun K hK=>?_);obtain⟨zz0,zz1,zz2,zf0,zf1,zf2⟩:=aj (HRR.out w6 hx2.out)
   go_simp
   refine hK.out _ _ ?_;clear hK K
   try simp only [Act.put,lyA,lyB,lyC]
   refine NoPanic.normal ?_;have hr9:=put3b_row (HRR.out w6 hx2.out) (.bool s6) (.slice A6 k6 ca6) (.slice B6 l6 cb6);have hn9:=nm_put3b H6.out (HRR.out w6 hx2.out) (.bool s6) (.slice A6 k6 ca6) (.slice B6 l6 cb6);have he9:Ext w (put3at w6 gr 0 (.bool s6) (.slice A6 k6 ca6) (.slice B6 l6 cb6)):=(((al HE.out hx2.out).setCell HGD.out.1 _).setCell HGD.out.1 _).setCell HGD.out.1 _;clear zz0 zz1 zz2 zf0 zf1 zf2;generalize hW9:(World.setCell (World.setCell (World.setCell w6 ⟨gr,0,none⟩ (.bool s6)) ⟨gr,1,none⟩ (.slice A6 k6 ca6)) ⟨gr,2,none⟩ (.slice B6 l6 cb6))=W9;have hW9':put3at w6 gr 0 (.bool s6) (.slice A6 k6 ca6) (.slice B6 l6 cb6)=W9:=hW9;rw [hW9'] at hr9 hn9 he9;obtain⟨t0,t1,t2,-⟩:=aj hr9;have HN9:=ZZ hn9;have HE9:=ZZ he9;clear hr9 hn9 he9 hW9 hW9';go_wp2_with fail;refine bodyPost_ret (v:=.agg #[.bool s6,.slice A6 k6 ca6,.slice B6 l6 cb6]) (by simp [results,Tryz.f37];go_simp) rfl ?_;exact⟨_,rfl,by rw [HBD.out,HMOE.out];exact HN9.out,HE9.out⟩
  ·have hjn:j<n:=by have:=HJ.out;omega
   have hjq:j<Q.length:=by rw [HN.out];omega
   have q1:decide ((j:Int)<(n:Int))=true:=decide_eq_true (by omega);have q1':decide (j<n)=true:=decide_eq_true hjn;have q4:(j:Int)<(n:Int):=by omega
   have q5:(0:Int)≤(j:Int):=by omega
   obtain⟨q,hq⟩:∃q,Q[j]?=some q:=⟨Q[j]'hjq,List.getElem?_eq_getElem _⟩;obtain⟨A0,cap0,e0,-,hA0⟩:=HPL.out
   injection e0 with e1 e2 e3
   subst e1
   rcases hA0 with ⟨-,h5⟩|⟨b,o,e4,ht⟩
   ·rw [h5] at hjq;simp at hjq
   subst e4;have HBG:=ZZ (HBG0.out b o rfl);obtain⟨s3,A3,k3,ca3,B3,l3,cb3,c0,c1,c2,hcn⟩:=ht j q hq;have BQ:=ZZ (HSM.out q (List.mem_of_getElem? hq));have HQJ:=ZZ hq;have E6:=ZZ (ab WR (.cells #[.bool s3,.slice A3 k3 ca3,.slice B3 l3 cb3] 38));have NC:=ZZ (hcn.mono (ab WR (.cells #[.bool s3,.slice A3 k3 ca3,.slice B3 l3 cb3] 38)));have RC:=ZZ (heap_alloc_new WR (.cells #[.bool s3,.slice A3 k3 ca3,.slice B3 l3 cb3] 38));have NM:=ZZ (NM0.out.mono (ab WR (.cells #[.bool s3,.slice A3 k3 ca3,.slice B3 l3 cb3] 38)));have HZ:=ZZ hz;have HJN:=ZZ hjn;clear hq hcn ht hz hjn hjq e2 e3
   go_upto_region 6 with (fail)
   generalize World.alloc WR (.cells #[.bool s3,.slice A3 k3 ca3,.slice B3 l3 cb3] _)=W6 at *;generalize WR.heap.size=gc at *;have HRM:=ZZ (show ∀W,Ext W6 W→W.heap[gm]?=some (.cells #[.bool s2,.slice A2 k2 ca2,.slice B2 l2 cb2] 38 (0,0)) from fun W k=>((al E6.out k).block _ (lt_of_block HM2.out)).trans HM2.out)
   have HC:=ZZ (show ∀W,Ext W6 W→W.cell? ⟨gm,0,none⟩=some (.bool s2)∧W.cell? ⟨gm,1,none⟩=some (.slice A2 k2 ca2)∧W.cell? ⟨gm,2,none⟩=some (.slice B2 l2 cb2)∧W.cell? ⟨gc,0,none⟩=some (.bool s3)∧W.cell? ⟨gc,1,none⟩=some (.slice A3 k3 ca3)∧W.cell? ⟨gc,2,none⟩=some (.slice B3 l3 cb3) from fun W k=>by
    obtain⟨y0,y1,y2,-⟩:=aj (HRM.out W k);obtain⟨u0,u1,u2,-⟩:=aj ((k.block _ (lt_of_block RC.out)).trans RC.out);exact⟨y0,y1,y2,u0,u1,u2⟩)
   clear c0 c1 c2;have hun:undef=.tuple #[]:=rfl;refine wp_region_noPanic ?_;refine region_L (S:=fun W=>W.cell? ⟨gm,0,none⟩=some (.bool s2)∧W.cell? ⟨gm,1,none⟩=some (.slice A2 k2 ca2)∧W.cell? ⟨gm,2,none⟩=some (.slice B2 l2 cb2)∧W.cell? ⟨gc,0,none⟩=some (.bool s3)∧W.cell? ⟨gc,1,none⟩=some (.slice A3 k3 ca3)∧W.cell? ⟨gc,2,none⟩=some (.slice B3 l3 cb3)) 4 (by kernel_rfl) (HC.out _ (ac _)) (fun hHeld=>?_);refine take_b 0 18 ?_;refine take_b 1 19 ?_;refine call_L (i:=2) 20 rfl rfl (by kernel_rfl) (fun K hK=>?_)
   go_simp
   go_at_call 80
   refine(abs_q _ q _ (NC.out.mono (ac _))).mono ?_;rintro e w5 ⟨v5,rfl,h5,kk5⟩;obtain⟨s5,A5,k5,ca5,B5,l5,cb5,rfl⟩:=h5.form2;have H5:=ZZ h5;have hx1:=ZZ (show Ext W6 w5 from al (ac _) kk5);clear h5 kk5
   try go_wp2_with fail
   refine hK.out _ _ (HC.out _ hx1.out) (fun hHeld=>?_);clear hK K
   try simp only [Act.put,lyA,lyB,lyC]
   refine call_L (i:=3) 21 rfl rfl (by kernel_rfl) (fun K hK=>?_)
   go_simp
   go_at_call 78
   refine(max_q M (by have:=HM.out;omega) _ _ mo (absQ q) _ (NM.out.mono hx1.out) H5.out BMO.out (bq_absQ BQ.out)).mono ?_;rintro e w6 ⟨v6,rfl,h6,kk6⟩;obtain⟨s6,A6,k6,ca6,B6,l6,cb6,rfl⟩:=h6.form2;have H6:=ZZ h6;have hx2:=ZZ (al hx1.out kk6);clear h6 kk6
   try go_wp2_with fail
   refine hK.out _ _ (HC.out _ hx2.out) (fun hHeld=>?_);clear hK K
   try simp only [Act.put,lyA,lyB,lyC]
   refine last_L rfl (by kernel_rfl) (by kernel_rfl) (fun K hK=>?_);obtain⟨zz0,zz1,zz2,zf0,zf1,zf2⟩:=aj (HRM.out w6 hx2.out)
   go_simp
   refine hK.out _ _ ?_;clear hK K
   try simp only [Act.put,lyA,lyB,lyC]
   refine NoPanic.normal ?_;have kk:=al E6.out hx2.out;have HM9:=ZZ (show ∃(s2:Bool) (A2:Option Addr) (k2 ca2:Nat) (B2:Option Addr) (l2 cb2:Nat),(put3at w6 gm 0 (.bool s6) (.slice A6 k6 ca6) (.slice B6 l6 cb6)).heap[gm]?=some (.cells #[.bool s2,.slice A2 k2 ca2,.slice B2 l2 cb2] 38 (0,0))∧Nm (put3at w6 gm 0 (.bool s6) (.slice A6 k6 ca6) (.slice B6 l6 cb6)) (.agg #[.bool s2,.slice A2 k2 ca2,.slice B2 l2 cb2]) (mostF Q (j+1)) from ⟨_,_,_,_,_,_,_,put3b_row (HRM.out w6 hx2.out) _ _ _,by rw [most_succ Q j q HQJ.out,HMOE.out];exact nm_put3b H6.out (HRM.out w6 hx2.out) _ _ _⟩);have HR9:=ZZ (show (put3at w6 gm 0 (.bool s6) (.slice A6 k6 ca6) (.slice B6 l6 cb6)).heap[gr]?=some (.cells #[.bool false,.slice none 0 0,.slice none 0 0] 38 (0,0)) from (put3b_other _ _ _ HGD.out.2.2).trans ((kk.block _ (lt_of_block HRG.out)).trans HRG.out));have HP9:=ZZ (show Pl (put3at w6 gm 0 (.bool s6) (.slice A6 k6 ca6) (.slice B6 l6 cb6)) (.slice (some ⟨b,o,none⟩) (n+1) cap) Q from pl_put3b (HPL.out.mono kk) (HRM.out w6 hx2.out) HBG.out _ _ _ (fun q v h=>nm_put3b h (HRM.out w6 hx2.out) _ _ _));have HE9:=ZZ (show Ext w (put3at w6 gm 0 (.bool s6) (.slice A6 k6 ca6) (.slice B6 l6 cb6)) from (((al HE.out kk).setCell HGD.out.2.1 _).setCell HGD.out.2.1 _).setCell HGD.out.2.1 _);clear kk zz0 zz1 zz2 zf0 zf1 zf2;go_wp2_with fail
   go_roundg (gk - 1)
   case measure=>have:=HZ.out;omega
   case rel=>exact⟨j+1,ZZ (by have:=HJ.out;have:=HZ.out;omega),by have h1:=HNL.out;have h2:=HJN.out;rw [IntWalk.wrap64_in _ ⟨by omega,by omega⟩];rfl,HM9,HR9,HP9,HE9⟩
end Go.Proofs.YtkoaakefgacokaaGreatDoor
