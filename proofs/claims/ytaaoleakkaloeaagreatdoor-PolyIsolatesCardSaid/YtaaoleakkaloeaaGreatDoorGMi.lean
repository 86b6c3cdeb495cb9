/- The walk of PolyIsolates. Printed by gen_mi.py. -/
import Derived.Test.YtaaoleakkaloeaaGreatDoorGMa
import Derived.Test.YtaaoleakkaloeaaGreatDoorGYt
import Derived.Deep.DeepCutAuto
set_option linter.unusedVariables false
set_option maxRecDepth 100000
set_option maxHeartbeats 64000000
namespace Go.Proofs.YtaaoleakkaloeaaGreatDoor
open Go Go.RowKit
set_option linter.unusedSimpArgs false
theorem ask_or {p:List Rat} (h:p.length≤14):askF p=0∨askF p=8:=by
 have h1:=trim_le p;unfold askF;rw [show bigF p=false from by unfold bigF;exact decide_eq_false (by omega)]
 by_cases h2:trimF p=[]
 ·exact .inr (by rw [if_pos h2];rfl)
 ·exact .inl (by rw [if_neg h2];rfl)
theorem SpL.at_ {w:World} {A:Option Addr} {n c i:Nat} {l:List (Rat × Rat)} {a:Rat × Rat} (h:SpL w (.slice A n c) l) (ha:l[i]?=some a):∃b s A1 k ca B1 m cb s' A' k' ca' B' m' cb',A=some ⟨b,0,none⟩∧(w.cell? ⟨b,i*6,none⟩=some (.bool s)∧w.cell? ⟨b,i*6+1,none⟩=some (.slice A1 k ca)∧w.cell? ⟨b,i*6+2,none⟩=some (.slice B1 m cb)∧w.cell? ⟨b,i*6+3,none⟩=some (.bool s')∧w.cell? ⟨b,i*6+4,none⟩=some (.slice A' k' ca')∧w.cell? ⟨b,i*6+5,none⟩=some (.slice B' m' cb'))∧Nm w (.agg #[.bool s,.slice A1 k ca,.slice B1 m cb]) a.1∧Nm w (.agg #[.bool s',.slice A' k' ca',.slice B' m' cb']) a.2:=by
 obtain⟨A',c',e,-,h3⟩:=h
 injection e with e1 e2 e3
 subst e1
 rcases h3 with ⟨-,h4⟩|⟨b,e4,h4⟩
 ·rw [h4] at ha;cases ha
 ·obtain⟨s,A1,k,ca,B1,m,cb,s',A',k',ca',B',m',cb',c0,c1,c2,c3,c4,c5,hs⟩:=h4 i a ha
  obtain⟨x0,x1,x2,y0,y1,y2,e,h1,h2⟩:=hs
  simp only [Value.agg.injEq,Array.mk.injEq,List.cons.injEq] at e
  obtain⟨rfl,rfl,rfl,rfl,rfl,rfl,-⟩:=e;exact⟨b,s,A1,k,ca,B1,m,cb,s',A',k',ca',B',m',cb',e4,⟨c0,c1,c2,c3,c4,c5⟩,h1,h2⟩
theorem spl_form {w:World} {v:Value} {l:List (Rat × Rat)} (h:SpL w v l):∃A c,v=.slice A l.length c:=by
 obtain⟨A,c,e,-⟩:=h;exact⟨A,c,e⟩
theorem cmp_is (M:Nat) (hM:M≤1099511627776) (vx vy:Value) (x y:Rat) (c:Int) (hc:cmpQ x y=c) (w:World) (hx:Nm w vx x) (hy:Nm w vy y) (bx:Bq M x) (by_:Bq M y):Calls Tryz.prog 17 #[vx,vy] w fun e w'=>e=.returned (.int .i64 c)∧Ext w w':=by
 subst hc;exact cmp_q M hM vx vy x y w hx hy bx by_
theorem cmp_not {x y:Rat} (h:x≤y):¬ 0<cmpQ x y:=by
 have h1:=cmpQ_one x y;have h2:=cmpQ_pos x y;intro h3
 have:=h2.1 (by omega)
 grind
theorem al2 (W:World) (o1 o2:Obj):((W.alloc o1).alloc o2).drew.heap[W.heap.size]?=some o1∧((W.alloc o1).alloc o2).drew.heap[W.heap.size+1]?=some o2∧Ext W ((W.alloc o1).alloc o2).drew:=by
 have e1:=heap_alloc_new W o1;have e2:=heap_alloc_new (W.alloc o1) o2;have k:=ac (W.alloc o1) o2;have hs:(W.alloc o1).heap.size=W.heap.size+1:=by simp
 rw [hs] at e2;exact⟨(k.block _ (lt_of_block' e1)).trans e1,e2,al (ac _ _) (al k (ae _))⟩
theorem cmp_ge {x y:Rat} (h:y≤x):¬ cmpQ x y<0:=by
 have h1:=cmpQ_one x y;have h2:=cmpQ_neg x y;intro h3
 have:=h2.1 (by omega)
 grind
theorem isolates_c (v0:Value) (l0:List (List UInt8)) (b:Nat) (hb:b<256) (w:World) (h0:Stl w v0 l0) (ht:Tens w):Calls Tryz.prog 4 #[v0,.int .u8 (b:Int)] w fun e w'=>e=.returned (.bool true)∧Ext w w':=by
 obtain⟨Q0,c0,rfl,-⟩:=h0.form;obtain⟨n0,hn0⟩:∃n,l0.length=n:=⟨_,rfl⟩;rw [hn0] at h0 ⊢;have HS0:=ZZ h0;have HT:=ZZ ht;have HN0:=ZZ hn0;clear h0 ht hn0;have EA:=ZZ (ac w (.cells #[.slice Q0 n0 c0] 22))
 have GL:=ZZ (show Gl (w.alloc (.cells #[.slice Q0 n0 c0] 22)) (.slice (some ⟨w.heap.size,0,none⟩) 1 1) [(.slice Q0 n0 c0,l0)] from by
  have hr:=heap_alloc_new w (.cells #[.slice Q0 n0 c0] 22);refine⟨_,1,rfl,fun i y hy=>?_⟩
  match i,hy with
  | 0,hy=>obtain rfl:=Option.some.inj hy;exact⟨by rw [cell_of_row _ _ _ _ _ _ hr];rfl,HS0.out.mono EA.out⟩)
 obtain⟨M,hM⟩:∃M:Nat,M=1739600393:=⟨_,rfl⟩;have HMX:=ZZ (show 0<M∧1100<M∧8067≤M∧M≤4294867000∧M≤4294967296 from by omega);have HMG:=ZZ (show 1739600393≤M from by omega);clear hM;obtain⟨n,hn⟩:∃n:Nat,b % 12=n:=⟨_,rfl⟩;have HNN:=ZZ (show n<12 from by omega);have qa:IntKind.i64.wrap (b:Int)=(b:Int):=IntWalk.i64_in _ (by omega);have qb:(b:Int) % 12=(n:Int):=by omega
 have qc:IntKind.i64.wrap (n:Int)=(n:Int):=IntWalk.i64_in _ (by omega);have qd:IntKind.i64.wrap ((n:Int)+3)=(n:Int)+3:=IntWalk.i64_in _ (by omega);have hun:undef=.tuple #[]:=rfl;clear hn
 go_enter Tryz.func4,Tryz.ntmps4
 go_wp2_with fail;generalize World.alloc w (.cells #[.slice Q0 n0 c0] _)=W0 at *
 generalize hwg:w.heap.size=g0 at *;refine(great_p _ [(.slice Q0 n0 c0,l0)] (by simp) _ GL.out).mono ?_;rintro e w1 ⟨rfl,kk1⟩;have K1:=ZZ (al EA.out kk1);obtain⟨d,hd⟩:∃d,greatF [(.slice Q0 n0 c0,l0)]=d:=⟨_,rfl⟩;rw [hd];clear hd kk1 hwg GL EA
 cases d with
 | true=>
  go_wp2_with fail;refine(awake_p _ (HT.out.mono K1.out)).mono ?_
  rintro e wz ⟨rfl,kz⟩;have KZ:=ZZ (al K1.out kz);clear kz;go_wp2_with fail;go_ret;exact⟨rfl,KZ.out⟩
 | false=>
  rcases Nat.lt_or_ge 14 n0 with z0|z0
  ·have g0:decide ((14:Int)<(n0:Int))=true:=decide_eq_true (by omega)
   have g0':decide (14<n0)=true:=decide_eq_true z0;go_wp2_with fail;refine(awake_p _ (HT.out.mono K1.out)).mono ?_;rintro e wz ⟨rfl,kz⟩;have KZ:=ZZ (al K1.out kz);clear kz;go_wp2_with fail;go_ret;exact⟨rfl,KZ.out⟩
  have g0:decide ((14:Int)<(n0:Int))=false:=decide_eq_false (by omega);have g0':decide (14<n0)=false:=decide_eq_false (by omega);have HLL0:=ZZ (show l0.length≤14 from by have:=HN0.out;omega);obtain⟨p,hp⟩:∃a,listF l0=a:=⟨_,rfl⟩;have HLA:=ZZ hp;clear hp z0;go_wp2_with fail;refine(list_14 _ l0 _ (HS0.out.mono K1.out) HLL0.out).mono ?_;rintro e w2 ⟨vp,xc,rfl,ha,kk2⟩;rw [HLA.out] at ha;have HL:=ZZ ha.2.1;have BP:=ZZ ha.2.2;have PP:=ZZ ha.1;have EW:=ZZ (al K1.out kk2);have EB:=ZZ (af w2)
  replace HT:=ZZ (HT.out.mono EW.out)
  clear ha kk2 K1 HLA HS0 HLL0 HN0 g0 g0';have e00:((0:Int) != 0)=false:=rfl;have e01:((0:Int) == 0)=true:=rfl;have e80:((8:Int) != 0)=true:=rfl;have e88:((8:Int) == 8)=true:=rfl
  by_cases hz:askF p=0
  ·have HZ:=ZZ hz
   clear hz;obtain⟨L1,f1,f2⟩:=roots_all HMG.out BP.out (by have:=HL.out;omega) HZ.out (n:Int);obtain⟨L2,f3,f4⟩:=roots_all HMG.out BP.out (by have:=HL.out;omega) HZ.out ((n:Int)+3);have hF:=iso_facts HMG.out BP.out (by have:=HL.out;omega) HZ.out (b1:=(n:Int)) (b2:=(n:Int)+3) (by omega) (by omega) (by have:=HNN.out;omega);obtain⟨L,hL⟩:∃L,rootL p (n:Int)=L:=⟨_,rfl⟩;obtain⟨L',hL'⟩:∃L,rootL p ((n:Int)+3)=L:=⟨_,rfl⟩;rw [hL] at f2 hF;rw [hL'] at f4 hF;have F1:=ZZ f1;have F2:=ZZ f2;have F3:=ZZ f3;have F4:=ZZ f4;have HF:=ZZ hF;have HP0:=ZZ (show 0<dgF p from List.length_pos_iff.2 (ask_zero HZ.out).2);obtain⟨K,iK⟩:=iso_all HMG.out BP.out HZ.out 0;have HOWN:=ZZ iK.own;clear f1 f2 f3 f4 hF hL hL' iK;go_wp2_with fail;refine(roots_p M 8100 L1 (by have:=HMX.out;omega) (by have:=HMX.out;omega) _ p (n:Int) (by have:=HNN.out;omega) (by have:=HL.out;omega) _ PP.out (fun _=>F1.out) (L,0) F2.out).mono ?_;rintro e w3 ⟨vl,rfl,hq,kq⟩
   replace EB:=ZZ (al EB.out kq)
   replace PP:=ZZ (PP.out.mono kq)
   have PL:=ZZ hq;clear kq hq;obtain⟨Al,cl,el⟩:=spl_form PL.out
   replace el:vl=.slice Al L.length cl:=el
   subst el;go_wp2_with fail;refine(roots_p M 8100 L2 (by have:=HMX.out;omega) (by have:=HMX.out;omega) _ p ((n:Int)+3) (by have:=HNN.out;omega) (by have:=HL.out;omega) _ PP.out (fun _=>F3.out) (L',0) F4.out).mono ?_;rintro e w4 ⟨vm,rfl,hq,kq⟩
   replace EB:=ZZ (al EB.out kq)
   replace PP:=ZZ (PP.out.mono kq)
   replace PL:=ZZ (PL.out.mono kq)
   have PM:=ZZ hq;clear kq hq;obtain⟨Am,cm,em⟩:=spl_form PM.out
   replace em:vm=.slice Am L'.length cm:=em
   subst em;go_wp2_with fail;refine(boundx_p _ p (by have:=HL.out;omega) _ PP.out BP.out (boundF p,0) (by unfold boundE;rw [if_pos HZ.out])).mono ?_;rintro e w5 ⟨vb,rfl,hq,kq⟩
   replace EB:=ZZ (al EB.out kq)
   replace PP:=ZZ (PP.out.mono kq)
   replace PL:=ZZ (PL.out.mono kq)
   replace PM:=ZZ (PM.out.mono kq)
   have PB:=ZZ hq;clear kq hq;obtain⟨nl,hnl⟩:∃k,L.length=k:=⟨_,rfl⟩;have hnm:L'.length=nl:=HF.out.same.trans hnl
   replace PL:=ZZ (show SpL _ (.slice Al nl cl) L from by rw [←hnl];exact PL.out)
   replace PM:=ZZ (show SpL _ (.slice Am nl cm) L' from by rw [←hnm];exact PM.out)
   rw [hnl,hnm];have HNL:=ZZ hnl;have HNM:=ZZ hnm;clear hnl hnm;obtain⟨s1,A1,k1,ca1,B1,l1,cb1,eb1⟩:=PB.out.form2
   replace eb1:vb=.agg #[.bool s1,.slice A1 k1 ca1,.slice B1 l1 cb1]:=eb1
   subst eb1
   replace PB:=ZZ (show Nm _ (.agg #[.bool s1,.slice A1 k1 ca1,.slice B1 l1 cb1]) (boundF p) from PB.out)
   go_upto_region 10 with (fail)
   have X1:=ZZ (ac w5 (.cells #[.bool s1,.slice A1 k1 ca1,.slice B1 l1 cb1] 36));have r1:=heap_alloc_new w5 (.cells #[.bool s1,.slice A1 k1 ca1,.slice B1 l1 cb1] 36);generalize hWb:w5.alloc (.cells #[.bool s1,.slice A1 k1 ca1,.slice B1 l1 cb1] _)=Wb at *;generalize w5.heap.size=gb at *
   replace EB:=ZZ (al EB.out X1.out)
   replace PP:=ZZ (PP.out.mono X1.out)
   replace PL:=ZZ (PL.out.mono X1.out)
   replace PM:=ZZ (PM.out.mono X1.out)
   replace PB:=ZZ (PB.out.mono X1.out)
   clear X1 hWb;obtain⟨d0,d1,d2,-⟩:=aj r1;have HC:=ZZ (show ∀W,Ext Wb W→W.cell? ⟨gb,0,none⟩=some (.bool s1)∧W.cell? ⟨gb,1,none⟩=some (.slice A1 k1 ca1)∧W.cell? ⟨gb,2,none⟩=some (.slice B1 l1 cb1) from fun W k=>⟨ao k d0,ao k d1,ao k d2⟩);clear r1 d0 d1 d2;refine wp_region_noPanic ?_;refine wp_region_held_drew (S:=fun W=>W.cell? ⟨gb,0,none⟩=some (.bool s1)∧W.cell? ⟨gb,1,none⟩=some (.slice A1 k1 ca1)∧W.cell? ⟨gb,2,none⟩=some (.slice B1 l1 cb1)) (by kernel_rfl) (HC.out _ (ae _)) (fun hHeld=>?_);refine take_a 0 74 ?_;refine take_a 1 75 ?_;refine take_a 3 77 ?_;refine call_p (i:=2) (some 76) rfl rfl (by kernel_rfl) (fun K hK=>?_)
   go_simp
   go_at_call 11
   refine(neg_q _ (boundF p) _ (PB.out.mono (ae _))).mono ?_;rintro e y1 ⟨v1,rfl,h1,kk1⟩;obtain⟨s2,A2,k2,ca2,B2,l2,cb2,rfl⟩:=h1.form2;have H2:=ZZ (show Nm y1 (.agg #[.bool s2,.slice A2 k2 ca2,.slice B2 l2 cb2]) (-(boundF p)) from h1);have hx1:=ZZ (show Ext Wb y1 from al (ae _) kk1);clear h1 kk1
   try go_wp2_with fail
   refine hK.out _ _ (HC.out _ hx1.out) (fun hHeld=>?_);clear hK K
   try simp only [Act.put,lyA,lyB,lyC]
   refine call_p (i:=4) (some 78) rfl rfl (by kernel_rfl) (fun K hK=>?_)
   go_simp
   go_at_call 16
   refine(count_p M HMX.out.1 (by have:=HMX.out;omega) _ _ _ p (-(boundF p)) (boundF p) (by have:=HL.out;omega) _ (PP.out.mono hx1.out) H2.out (PB.out.mono hx1.out) ((bound_bq BP.out).neg.mono (by have:=HMX.out;omega)) ((bound_bq BP.out).mono (by have:=HMX.out;omega)) (fun _ _=>HOWN.out) ((nl:Int),0) (by unfold countE;rw [if_pos HZ.out,if_neg (by have:=bound_pos p;grind),←HF.out.cnt,HNL.out])).mono ?_;rintro e y2 ⟨rfl,kk2⟩;have hx2:=ZZ (show Ext Wb y2 from al hx1.out kk2);clear kk2
   try go_wp2_with fail
   refine hK.out _ _ (HC.out _ hx2.out) (fun hHeld=>?_);clear hK K
   try simp only [Act.put,lyA,lyB,lyC]
   refine take_a 5 73 ?_;refine take_a 6 79 ?_;refine take_a 7 80 ?_;refine take_a 8 14 ?_;refine take_a 9 9 ?_;refine wpAnyH_done (by kernel_rfl) ?_ _;refine NoPanic.normal ?_
   replace EB:=ZZ (al EB.out hx2.out)
   replace PP:=ZZ (PP.out.mono hx2.out)
   replace PL:=ZZ (PL.out.mono hx2.out)
   replace PM:=ZZ (PM.out.mono hx2.out)
   replace PB:=ZZ (PB.out.mono hx2.out)
   clear hx1 hx2 HC H2;have qn0:((nl:Int) != (nl:Int))=false:=by simp
   have qn1:((nl:Int) == (nl:Int))=true:=by simp
   go_wp2_with fail;clear PB
   go_loopg [15] nl (fun k i wr=>∃j,Hid (j+k=nl)∧i=.int .i64 (j:Int)∧Hid (Ext y2 wr))
   case atStart=>exact⟨0,ZZ (Nat.zero_add _),rfl,ZZ (af _)⟩
   case round=>
    obtain⟨j,HJ,rfl,HE⟩:=hrel;rename World=>WR
    rcases Nat.eq_zero_or_pos gk with hz|hz
    ·subst hz
     obtain rfl:j=nl:=HJ.out;have q1:decide ((j:Int)<(j:Int))=false:=decide_eq_false (Int.lt_irrefl _)
     replace EB:=ZZ (al EB.out HE.out)
     go_wp2_with fail;refine(awake_p _ (HT.out.mono EB.out)).mono ?_
     rintro e wz ⟨rfl,kz⟩;have KZ:=ZZ (al EB.out kz);clear kz;go_wp2_with fail;go_ret;exact⟨rfl,al EW.out KZ.out⟩
    have hjn:j<nl:=by have:=HJ.out;omega
    have q1:decide ((j:Int)<(nl:Int))=true:=decide_eq_true (by omega);have q4:(j:Int)<(nl:Int):=by omega
    have q5:(0:Int)≤(j:Int):=by omega
    have HJ30:=ZZ (show j<10000 from by have h1:=HF.out.small;have h2:=HNL.out;omega)
    have q6:IntKind.i64.wrap ((j:Int)+1)=(((j+1:Nat)):Int):=by
     have:=HJ30.out
     rw [show (((j+1:Nat)):Int)=(j:Int)+1 by omega];exact IntWalk.i64_in _ (by omega)
    obtain⟨⟨lo,hi⟩,ha⟩:∃a,L[j]?=some a:=⟨L[j]'(by rw [HNL.out];exact hjn),List.getElem?_eq_getElem _⟩;obtain⟨⟨lo',hi'⟩,ha'⟩:∃a,L'[j]?=some a:=⟨L'[j]'(by rw [HNM.out];exact hjn),List.getElem?_eq_getElem _⟩;have H1:=ZZ (HF.out.one j _ ha);have H3:=ZZ (HF.out.fine j _ _ ha ha');have HS:=ZZ (fun (i:Nat) (hi:i+1=j) (c:Rat × Rat) (hc:L[i]?=some c)=>HF.out.sort i c _ hc (by rw [hi];exact ha))
    replace PP:=ZZ (PP.out.mono HE.out)
    have PLW:=ZZ (PL.out.mono HE.out);have PMW:=ZZ (PM.out.mono HE.out);obtain⟨bl,s3,A3,k3,ca3,B3,l3,cb3,s4,A4,k4,ca4,B4,l4,cb4,rfl,⟨c0,c1,c2,c3,c4,c5⟩,hn3,hn4⟩:=PLW.out.at_ ha;have HZ9:=ZZ hz;have HJN:=ZZ hjn;have N3:=ZZ hn3;have N4:=ZZ hn4;have HA:=ZZ ha;have HA':=ZZ ha';clear ha ha' hz hjn hn3 hn4
    go_upto_region 16 with (fail)
    go_cut [16,17] (fun p16 q17 wx=>∃g1 g2,p16=.pointer (some ⟨g1,0,none⟩)∧q17=.pointer (some ⟨g2,0,none⟩)∧Hid (wx.heap[g1]?=some (.cells #[.bool s3,.slice A3 k3 ca3,.slice B3 l3 cb3] 36 (0,0)))∧Hid (wx.heap[g2]?=some (.cells #[.bool s4,.slice A4 k4 ca4,.slice B4 l4 cb4] 36 (0,0)))∧Hid (Ext WR wx))
    case first=>
     have LB:bl<WR.heap.size:=World.block_lt_of_cell? WR _ c0;have LBH:=ZZ LB;have cA0:=fun (o1:Obj)=>ao (ac WR o1) c0;have cB0:=fun (o1 o2:Obj)=>ao (al (ac WR o1) (ac (WR.alloc o1) o2)) c0;have cA1:=fun (o1:Obj)=>ao (ac WR o1) c1;have cB1:=fun (o1 o2:Obj)=>ao (al (ac WR o1) (ac (WR.alloc o1) o2)) c1;have cA2:=fun (o1:Obj)=>ao (ac WR o1) c2;have cB2:=fun (o1 o2:Obj)=>ao (al (ac WR o1) (ac (WR.alloc o1) o2)) c2;have cA3:=fun (o1:Obj)=>ao (ac WR o1) c3;have cB3:=fun (o1 o2:Obj)=>ao (al (ac WR o1) (ac (WR.alloc o1) o2)) c3;have cA4:=fun (o1:Obj)=>ao (ac WR o1) c4;have cB4:=fun (o1 o2:Obj)=>ao (al (ac WR o1) (ac (WR.alloc o1) o2)) c4;have cA5:=fun (o1:Obj)=>ao (ac WR o1) c5;have cB5:=fun (o1 o2:Obj)=>ao (al (ac WR o1) (ac (WR.alloc o1) o2)) c5;have nb1:¬ bl=WR.heap.size:=by omega
     have nb2:¬ WR.heap.size=bl:=by omega
     have nb3:¬ bl=WR.heap.size+1:=by omega
     have nb4:¬ WR.heap.size+1=bl:=by omega
     clear LB
     go_big_region
     ·go_wp2_with fail
      go_meet;obtain⟨r1,r2,r3⟩:=al2 WR (.cells #[.bool s3,.slice A3 k3 ca3,.slice B3 l3 cb3] 36) (.cells #[.bool s4,.slice A4 k4 ca4,.slice B4 l4 cb4] 36)
      exact⟨_,_,rfl,rfl,ZZ r1,ZZ r2,ZZ r3⟩
     ·go_wp2_with fail
      go_meet;obtain⟨r1,r2,r3⟩:=al2 WR (.cells #[.bool s4,.slice A4 k4 ca4,.slice B4 l4 cb4] 36) (.cells #[.bool s3,.slice A3 k3 ca3,.slice B3 l3 cb3] 36)
      exact⟨_,_,rfl,rfl,ZZ r2,ZZ r1,ZZ r3⟩
    case rest=>
     obtain⟨g1,g2,rfl,rfl,R1,R2,HXR⟩:=hcut;rename World=>WX
     have HCX:=ZZ (show ∀W,Ext WX W→(W.cell? ⟨g1,0,none⟩=some (.bool s3)∧W.cell? ⟨g1,1,none⟩=some (.slice A3 k3 ca3)∧W.cell? ⟨g1,2,none⟩=some (.slice B3 l3 cb3))∧(W.cell? ⟨g2,0,none⟩=some (.bool s4)∧W.cell? ⟨g2,1,none⟩=some (.slice A4 k4 ca4)∧W.cell? ⟨g2,2,none⟩=some (.slice B4 l4 cb4)) from fun W k=>by
      obtain⟨d0,d1,d2,-⟩:=aj ((k.block _ (lt_of_block' R1.out)).trans R1.out);obtain⟨e0,e1,e2,-⟩:=aj ((k.block _ (lt_of_block' R2.out)).trans R2.out);exact⟨⟨d0,d1,d2⟩,e0,e1,e2⟩)
     replace PP:=ZZ (PP.out.mono HXR.out)
     replace N3:=ZZ (N3.out.mono HXR.out)
     replace N4:=ZZ (N4.out.mono HXR.out)
     have HEX:=ZZ (al HE.out HXR.out);obtain⟨bm,s5,A5,k5,ca5,B5,l5,cb5,s6,A6,k6,ca6,B6,l6,cb6,rfl,⟨m0,m1,m2,m3,m4,m5⟩,hn5,hn6⟩:=PMW.out.at_ HA'.out;have N5:=ZZ (hn5.mono HXR.out);have N6:=ZZ (hn6.mono HXR.out)
     have HCM:=ZZ (show ∀W,Ext WX W→W.cell? ⟨bm,j*6,none⟩=some (.bool s5)∧W.cell? ⟨bm,j*6+1,none⟩=some (.slice A5 k5 ca5)∧W.cell? ⟨bm,j*6+2,none⟩=some (.slice B5 l5 cb5)∧W.cell? ⟨bm,j*6+3,none⟩=some (.bool s6)∧W.cell? ⟨bm,j*6+4,none⟩=some (.slice A6 k6 ca6)∧W.cell? ⟨bm,j*6+5,none⟩=some (.slice B6 l6 cb6) from fun W k=>by
      have k2:=al HXR.out k;exact⟨ao k2 m0,ao k2 m1,ao k2 m2,ao k2 m3,ao k2 m4,ao k2 m5⟩)
     have HX:=ZZ (af WX);clear hn5 hn6 m0 m1 m2 m3 m4 m5 c0 c1 c2 c3 c4 c5 R1 R2;skip;obtain⟨hle,b1,b2,hor⟩:=H1.out;have BL:=ZZ (show Bq M lo from b1);have BH:=ZZ (show Bq M hi from b2);have HLE:=ZZ (show lo≤hi from hle);obtain⟨cN,hcN⟩:∃z,betweenF (ownF p) lo hi=z:=⟨_,rfl⟩;have HCN:=ZZ hcN;have HOR:=ZZ hor;clear hle b1 b2 hor hcN;have BPM:=ZZ (show ∀c ∈ p,Bq M c from fun c hc=>(BP.out c hc).mono (by have:=HMX.out;omega));have HMS:=ZZ (show M≤4294967296 from by have:=HMX.out;omega);have HM0:=ZZ HMX.out.1;have HL14:=ZZ HL.out;obtain⟨⟨x0,x1,x2⟩,y0,y1,y2⟩:=HCX.out _ (af _);go_wp2_with fail;refine(count_p M HM0.out HMS.out _ _ _ p lo hi (by have:=HL14.out;omega) _ (PP.out.mono HX.out) (N3.out.mono HX.out) (N4.out.mono HX.out) BL.out BH.out (fun _ _=>HOWN.out) (cN,0) (by unfold countE;rw [if_pos HZ.out,if_neg (by have:=HLE.out;grind),HCN.out])).mono ?_;rintro e a1 ⟨rfl,kq⟩;clear x0 x1 x2 y0 y1 y2
     replace HX:=ZZ (al HX.out kq)
     clear kq;obtain⟨⟨x0,x1,x2⟩,y0,y1,y2⟩:=HCX.out _ (HX.out)
     rcases HOR.out with ⟨hpt,hev0⟩|⟨hne,hc1,hel,heh⟩
     ·have hcm:cmpQ lo hi=0:=(cmpQ_zero lo hi).2 hpt
      have HCM0:=ZZ hcm;have HEL:=ZZ (show (evR p lo).num.sign=0 from by rw [show lo=hi from hpt,show evR p hi=0 from hev0];rfl);clear hpt hev0 hcm;go_wp2_with fail;refine(cmp_is M (by have:=HMS.out;omega) _ _ lo hi 0 HCM0.out _ (N3.out.mono HX.out) (N4.out.mono HX.out) BL.out BH.out).mono ?_;rintro e a2 ⟨rfl,kq⟩;clear x0 x1 x2 y0 y1 y2
      replace HX:=ZZ (al HX.out kq)
      clear kq;obtain⟨⟨x0,x1,x2⟩,y0,y1,y2⟩:=HCX.out _ (HX.out);go_wp2_with fail;refine(cmp_is M (by have:=HMS.out;omega) _ _ lo hi 0 HCM0.out _ (N3.out.mono HX.out) (N4.out.mono HX.out) BL.out BH.out).mono ?_;rintro e a3 ⟨rfl,kq⟩;clear x0 x1 x2 y0 y1 y2
      replace HX:=ZZ (al HX.out kq)
      clear kq;obtain⟨⟨x0,x1,x2⟩,y0,y1,y2⟩:=HCX.out _ (HX.out);go_wp2_with fail;refine(eval_p M HM0.out _ _ p lo (by have:=HL14.out;omega) (by have h1:=HL14.out;have h2:=HMS.out;have h3:p.length*(M+M+1)≤14*(M+M+1):=Nat.mul_le_mul_right _ h1;omega) _ (PP.out.mono HX.out) (N3.out.mono HX.out) BPM.out BL.out).mono ?_;rintro e a4 ⟨v4,rfl,hev,kq⟩;clear x0 x1 x2 y0 y1 y2
      replace HX:=ZZ (al HX.out kq)
      have HEV:=ZZ hev;clear kq hev;obtain⟨s9,A9,k9,ca9,B9,l9,cb9,rfl⟩:=HEV.out.form2;obtain⟨⟨x0,x1,x2⟩,y0,y1,y2⟩:=HCX.out _ (HX.out);go_wp2_with fail;refine(sign_q' _ (evR p lo) _ 0 HEL.out HEV.out).mono ?_;rintro e a5 ⟨rfl,kq⟩;clear x0 x1 x2 y0 y1 y2
      replace HX:=ZZ (al HX.out kq)
      clear kq;obtain⟨⟨x0,x1,x2⟩,y0,y1,y2⟩:=HCX.out _ (HX.out);clear HEV;skip;obtain⟨z1,hz1,hz1'⟩:∃z,cmpQ lo' lo=z∧¬ z<0:=⟨_,rfl,cmp_ge H3.out.1⟩;have Z1:=ZZ hz1;obtain⟨z2,hz2,hz2'⟩:∃z,cmpQ hi' hi=z∧¬ 0<z:=⟨_,rfl,cmp_not H3.out.2.1⟩;have Z2:=ZZ hz2;have r1:decide (z1<0)=false:=decide_eq_false hz1';have r2:decide (0<z2)=false:=decide_eq_false hz2';clear hz1 hz1' hz2 hz2';skip
      have HCS:=ZZ (show ∀W,Ext WX W→(W.cell? ⟨g1,0,none⟩=some (.bool s3)∧W.cell? ⟨g1,1,none⟩=some (.slice A3 k3 ca3)∧W.cell? ⟨g1,2,none⟩=some (.slice B3 l3 cb3))∧(W.cell? ⟨g2,0,none⟩=some (.bool s4)∧W.cell? ⟨g2,1,none⟩=some (.slice A4 k4 ca4)∧W.cell? ⟨g2,2,none⟩=some (.slice B4 l4 cb4))∧(W.cell? ⟨bm,j*6,none⟩=some (.bool s5)∧W.cell? ⟨bm,j*6+1,none⟩=some (.slice A5 k5 ca5)∧W.cell? ⟨bm,j*6+2,none⟩=some (.slice B5 l5 cb5))∧W.cell? ⟨bm,j*6+3,none⟩=some (.bool s6)∧W.cell? ⟨bm,j*6+4,none⟩=some (.slice A6 k6 ca6)∧W.cell? ⟨bm,j*6+5,none⟩=some (.slice B6 l6 cb6) from fun W k=>by
       obtain⟨u1,u2⟩:=HCX.out W k;obtain⟨t0,t1,t2,t3,t4,t5⟩:=HCM.out W k;exact⟨u1,u2,⟨t0,t1,t2⟩,t3,t4,t5⟩)
      clear x0 x1 x2 y0 y1 y2
      rcases Nat.eq_zero_or_pos j with hj|hj
      ·have r0:decide ((0:Int)<(j:Int))=false:=decide_eq_false (by omega)
       have r0':decide (0<j)=false:=decide_eq_false (by omega);clear hj
       go_upto_region 21 with (fail)
       have HY0:=ZZ (al HX.out (ae a5));refine wp_region_noPanic ?_;refine wp_region_held_drew (S:=fun W=>(W.cell? ⟨g1,0,none⟩=some (.bool s3)∧W.cell? ⟨g1,1,none⟩=some (.slice A3 k3 ca3)∧W.cell? ⟨g1,2,none⟩=some (.slice B3 l3 cb3))∧(W.cell? ⟨g2,0,none⟩=some (.bool s4)∧W.cell? ⟨g2,1,none⟩=some (.slice A4 k4 ca4)∧W.cell? ⟨g2,2,none⟩=some (.slice B4 l4 cb4))∧(W.cell? ⟨bm,j*6,none⟩=some (.bool s5)∧W.cell? ⟨bm,j*6+1,none⟩=some (.slice A5 k5 ca5)∧W.cell? ⟨bm,j*6+2,none⟩=some (.slice B5 l5 cb5))∧W.cell? ⟨bm,j*6+3,none⟩=some (.bool s6)∧W.cell? ⟨bm,j*6+4,none⟩=some (.slice A6 k6 ca6)∧W.cell? ⟨bm,j*6+5,none⟩=some (.slice B6 l6 cb6)) (by kernel_rfl) (HCS.out _ HY0.out) (fun hHeld=>?_);refine take_a 0 171 ?_;refine take_a 1 172 ?_;refine take_a 2 173 ?_;refine take_p (i:=3) 174 (v:=undef) rfl rfl (by kernel_rfl) (by kernel_rfl) (by kernel_rfl) (fun _ _ _ h=>h) (Or.inr ⟨rfl,rfl⟩) (by assumption) ?_
       try simp only [Act.put,lyA,lyB,lyC]
       refine take_p (i:=4) 175 (v:=undef) rfl rfl (by kernel_rfl) (by kernel_rfl) (by kernel_rfl) (fun _ _ _ h=>h) (Or.inr ⟨rfl,rfl⟩) (by assumption) ?_
       try simp only [Act.put,lyA,lyB,lyC]
       refine take_p (i:=5) 176 (v:=undef) rfl rfl (by kernel_rfl) (by kernel_rfl) (by kernel_rfl) (fun _ _ _ h=>h) (Or.inr ⟨rfl,rfl⟩) (by assumption) ?_
       try simp only [Act.put,lyA,lyB,lyC]
       refine take_p (i:=6) 177 (v:=undef) rfl rfl (by kernel_rfl) (by kernel_rfl) (by kernel_rfl) (fun _ _ _ h=>h) (Or.inr ⟨rfl,rfl⟩) (by assumption) ?_
       try simp only [Act.put,lyA,lyB,lyC]
       refine take_p (i:=7) 178 (v:=undef) rfl rfl (by kernel_rfl) (by kernel_rfl) (by kernel_rfl) (fun _ _ _ h=>h) (Or.inr ⟨rfl,rfl⟩) (by assumption) ?_
       try simp only [Act.put,lyA,lyB,lyC]
       refine take_p (i:=8) 179 (v:=undef) rfl rfl (by kernel_rfl) (by kernel_rfl) (by kernel_rfl) (fun _ _ _ h=>h) (Or.inr ⟨rfl,rfl⟩) (by assumption) ?_
       try simp only [Act.put,lyA,lyB,lyC]
       refine take_p (i:=9) 180 (v:=undef) rfl rfl (by kernel_rfl) (by kernel_rfl) (by kernel_rfl) (fun _ _ _ h=>h) (Or.inr ⟨rfl,rfl⟩) (by assumption) ?_
       try simp only [Act.put,lyA,lyB,lyC]
       refine call_p (i:=10) (some 181) rfl rfl (by kernel_rfl) (fun K hK=>?_);rw [if_neg (by exact Bool.false_ne_true)];refine hK.out _ _ (by assumption) (fun hHeld=>?_);clear hK K
       try simp only [Act.put,lyA,lyB,lyC]
       refine take_p (i:=11) 182 (v:=undef) rfl rfl (by kernel_rfl) (by kernel_rfl) (by kernel_rfl) (fun _ _ _ h=>h) (Or.inr ⟨rfl,rfl⟩) (by assumption) ?_
       try simp only [Act.put,lyA,lyB,lyC]
       refine take_a 12 183 ?_;refine take_a 13 184 ?_;refine take_a 14 185 ?_;refine take_a 15 186 ?_;refine take_a 16 187 ?_;refine take_a 17 188 ?_;refine take_a 18 189 ?_;refine take_a 19 190 ?_;refine call_p (i:=20) (some 191) rfl rfl (by kernel_rfl) (fun K hK=>?_)
       go_simp
       go_at_call 17
       refine(cmp_is M (by have:=HMS.out;omega) _ _ lo' lo z1 Z1.out _ (N5.out.mono HY0.out) (N3.out.mono HY0.out) H3.out.2.2.1 BL.out).mono ?_;rintro e y1p ⟨rfl,kk⟩;have HY1:=ZZ (al HY0.out kk);clear kk
       try go_wp2_with fail
       refine hK.out _ _ (HCS.out _ HY1.out) (fun hHeld=>?_);clear hK K
       try simp only [Act.put,lyA,lyB,lyC]
       refine take_a 21 192 ?_;refine take_a 22 193 ?_;refine take_a 23 194 ?_;refine take_a 24 195 ?_;refine take_a 25 196 ?_;refine take_a 26 197 ?_;refine take_a 27 198 ?_;refine take_a 28 199 ?_;refine take_a 29 200 ?_;refine call_p (i:=30) (some 201) rfl rfl (by kernel_rfl) (fun K hK=>?_)
       go_simp
       go_at_call 17
       refine(cmp_is M (by have:=HMS.out;omega) _ _ hi' hi z2 Z2.out _ (N6.out.mono HY1.out) (N4.out.mono HY1.out) H3.out.2.2.2 BH.out).mono ?_;rintro e y2p ⟨rfl,kk⟩;have HY2:=ZZ (al HY1.out kk);clear kk
       try go_wp2_with fail
       refine hK.out _ _ (HCS.out _ HY2.out) (fun hHeld=>?_);clear hK K
       try simp only [Act.put,lyA,lyB,lyC]
       refine take_a 31 202 ?_;refine take_a 32 203 ?_;refine wpAnyH_done (by kernel_rfl) ?_ _;refine NoPanic.normal ?_;have HYL:=HY2;clear HCS;go_wp2_with fail
       go_roundg (gk - 1)
       case measure=>have:=HZ9.out;omega
       case rel=>exact⟨j+1,ZZ (by have:=HJ.out;have:=HZ9.out;omega),rfl,ZZ (al HEX.out (HYL.out))⟩
      ·have r0:decide ((0:Int)<(j:Int))=true:=decide_eq_true (by omega)
       have r0':decide (0<j)=true:=decide_eq_true (by omega);obtain⟨jp,hjp⟩:∃k,j=k+1:=⟨j - 1,by omega⟩
       have r3:IntKind.i64.wrap ((j:Int) - 1)=(jp:Int):=by
        have:=HJ30.out
        rw [show (j:Int) - 1=(jp:Int) by omega];exact IntWalk.i64_in _ (by omega)
       have r7:IntKind.i64.wrap (jp:Int)=(jp:Int):=by
        have:=HJ30.out
        exact IntWalk.i64_in _ (by omega)
       have r4:(0:Int)≤(jp:Int):=by omega
       have r5:(jp:Int)<(nl:Int):=by have:=HJN.out;omega
       obtain⟨⟨pl,ph⟩,hpr⟩:∃a,L[jp]?=some a:=⟨L[jp]'(by rw [HNL.out];have:=HJN.out;omega),List.getElem?_eq_getElem _⟩;have hso:=HS.out jp hjp.symm _ hpr;have hbp:=(HF.out.one jp _ hpr).2.2.1;obtain⟨bp,s7,A7,k7,ca7,B7,l7,cb7,s8,A8,k8,ca8,B8,l8,cb8,ebp,⟨-,-,-,t3,t4,t5⟩,-,hn8⟩:=PLW.out.at_ hpr
       injection ebp with ebp
       injection ebp with ebp
       subst ebp;have N8:=ZZ (hn8.mono HXR.out);have BPV:=ZZ (show Bq M ph from hbp);obtain⟨z3,hz3,hz3'⟩:∃z,cmpQ ph lo=z∧¬ 0<z:=⟨_,rfl,cmp_not hso⟩;have Z3:=ZZ hz3;have r6:decide (0<z3)=false:=decide_eq_false hz3'
       have HCQ:=ZZ (show ∀W,Ext WX W→((W.cell? ⟨g1,0,none⟩=some (.bool s3)∧W.cell? ⟨g1,1,none⟩=some (.slice A3 k3 ca3)∧W.cell? ⟨g1,2,none⟩=some (.slice B3 l3 cb3))∧(W.cell? ⟨g2,0,none⟩=some (.bool s4)∧W.cell? ⟨g2,1,none⟩=some (.slice A4 k4 ca4)∧W.cell? ⟨g2,2,none⟩=some (.slice B4 l4 cb4))∧(W.cell? ⟨bm,j*6,none⟩=some (.bool s5)∧W.cell? ⟨bm,j*6+1,none⟩=some (.slice A5 k5 ca5)∧W.cell? ⟨bm,j*6+2,none⟩=some (.slice B5 l5 cb5))∧W.cell? ⟨bm,j*6+3,none⟩=some (.bool s6)∧W.cell? ⟨bm,j*6+4,none⟩=some (.slice A6 k6 ca6)∧W.cell? ⟨bm,j*6+5,none⟩=some (.slice B6 l6 cb6))∧W.cell? ⟨bl,jp*6+3,none⟩=some (.bool s8)∧W.cell? ⟨bl,jp*6+4,none⟩=some (.slice A8 k8 ca8)∧W.cell? ⟨bl,jp*6+5,none⟩=some (.slice B8 l8 cb8) from fun W k=>by
        have k2:=al HXR.out k;exact⟨HCS.out W k,ao k2 t3,ao k2 t4,ao k2 t5⟩)
       clear t3 t4 t5 hn8 hz3 hz3' hso hbp hpr hj hjp
       go_upto_region 21 with (fail)
       have HY0:=ZZ (al HX.out (ae a5));refine wp_region_noPanic ?_;refine wp_region_held_drew (S:=fun W=>((W.cell? ⟨g1,0,none⟩=some (.bool s3)∧W.cell? ⟨g1,1,none⟩=some (.slice A3 k3 ca3)∧W.cell? ⟨g1,2,none⟩=some (.slice B3 l3 cb3))∧(W.cell? ⟨g2,0,none⟩=some (.bool s4)∧W.cell? ⟨g2,1,none⟩=some (.slice A4 k4 ca4)∧W.cell? ⟨g2,2,none⟩=some (.slice B4 l4 cb4))∧(W.cell? ⟨bm,j*6,none⟩=some (.bool s5)∧W.cell? ⟨bm,j*6+1,none⟩=some (.slice A5 k5 ca5)∧W.cell? ⟨bm,j*6+2,none⟩=some (.slice B5 l5 cb5))∧W.cell? ⟨bm,j*6+3,none⟩=some (.bool s6)∧W.cell? ⟨bm,j*6+4,none⟩=some (.slice A6 k6 ca6)∧W.cell? ⟨bm,j*6+5,none⟩=some (.slice B6 l6 cb6))∧W.cell? ⟨bl,jp*6+3,none⟩=some (.bool s8)∧W.cell? ⟨bl,jp*6+4,none⟩=some (.slice A8 k8 ca8)∧W.cell? ⟨bl,jp*6+5,none⟩=some (.slice B8 l8 cb8)) (by kernel_rfl) (HCQ.out _ HY0.out) (fun hHeld=>?_);refine take_a 0 171 ?_;refine take_a 1 172 ?_;refine take_a 2 173 ?_;refine take_a 3 174 ?_;refine take_a 4 175 ?_;refine take_a 5 176 ?_;refine take_a 6 177 ?_;refine take_a 7 178 ?_;refine take_a 8 179 ?_;refine take_a 9 180 ?_;refine call_p (i:=10) (some 181) rfl rfl (by kernel_rfl) (fun K hK=>?_)
       go_simp
       go_at_call 17
       refine(cmp_is M (by have:=HMS.out;omega) _ _ ph lo z3 Z3.out _ (N8.out.mono HY0.out) (N3.out.mono HY0.out) BPV.out BL.out).mono ?_;rintro e y1p ⟨rfl,kk⟩;have HY1:=ZZ (al HY0.out kk);clear kk
       try go_wp2_with fail
       refine hK.out _ _ (HCQ.out _ HY1.out) (fun hHeld=>?_);clear hK K
       try simp only [Act.put,lyA,lyB,lyC]
       refine take_a 11 182 ?_;refine take_a 12 183 ?_;refine take_a 13 184 ?_;refine take_a 14 185 ?_;refine take_a 15 186 ?_;refine take_a 16 187 ?_;refine take_a 17 188 ?_;refine take_a 18 189 ?_;refine take_a 19 190 ?_;refine call_p (i:=20) (some 191) rfl rfl (by kernel_rfl) (fun K hK=>?_)
       go_simp
       go_at_call 17
       refine(cmp_is M (by have:=HMS.out;omega) _ _ lo' lo z1 Z1.out _ (N5.out.mono HY1.out) (N3.out.mono HY1.out) H3.out.2.2.1 BL.out).mono ?_;rintro e y2p ⟨rfl,kk⟩;have HY2:=ZZ (al HY1.out kk);clear kk
       try go_wp2_with fail
       refine hK.out _ _ (HCQ.out _ HY2.out) (fun hHeld=>?_);clear hK K
       try simp only [Act.put,lyA,lyB,lyC]
       refine take_a 21 192 ?_;refine take_a 22 193 ?_;refine take_a 23 194 ?_;refine take_a 24 195 ?_;refine take_a 25 196 ?_;refine take_a 26 197 ?_;refine take_a 27 198 ?_;refine take_a 28 199 ?_;refine take_a 29 200 ?_;refine call_p (i:=30) (some 201) rfl rfl (by kernel_rfl) (fun K hK=>?_)
       go_simp
       go_at_call 17
       refine(cmp_is M (by have:=HMS.out;omega) _ _ hi' hi z2 Z2.out _ (N6.out.mono HY2.out) (N4.out.mono HY2.out) H3.out.2.2.2 BH.out).mono ?_;rintro e y3p ⟨rfl,kk⟩;have HY3:=ZZ (al HY2.out kk);clear kk
       try go_wp2_with fail
       refine hK.out _ _ (HCQ.out _ HY3.out) (fun hHeld=>?_);clear hK K
       try simp only [Act.put,lyA,lyB,lyC]
       refine take_a 31 202 ?_;refine take_a 32 203 ?_;refine wpAnyH_done (by kernel_rfl) ?_ _;refine NoPanic.normal ?_;have HYL:=HY3;clear HCQ;clear HCS;go_wp2_with fail
       go_roundg (gk - 1)
       case measure=>have:=HZ9.out;omega
       case rel=>exact⟨j+1,ZZ (by have:=HJ.out;have:=HZ9.out;omega),rfl,ZZ (al HEX.out (HYL.out))⟩
     ·obtain⟨ci,hci⟩:∃z,cmpQ lo hi=z:=⟨_,rfl⟩
      have HCI:=ZZ hci;have f1:(ci == 0)=false:=beq_eq_false_iff_ne.2 fun z=>hne ((cmpQ_zero lo hi).1 (hci.trans z));have f2:decide (0<ci)=false:=decide_eq_false (by rw [←hci];exact cmp_not HLE.out);obtain⟨sl,hsl⟩:∃z,(evR p lo).num.sign=z:=⟨_,rfl⟩;obtain⟨sh,hsh⟩:∃z,(evR p hi).num.sign=z:=⟨_,rfl⟩;have HSL:=ZZ hsl;have HSH:=ZZ hsh;have f3:(sl == 0)=false:=beq_eq_false_iff_ne.2 fun z=>hel (atF_zero.1 (hsl.trans z));have f4:(sh == 0)=false:=beq_eq_false_iff_ne.2 fun z=>heh (atF_zero.1 (hsh.trans z));obtain rfl:cN=1:=HCN.out.symm.trans hc1;have f5:((1:Int) != 1)=false:=rfl;clear hne hc1 hel heh hci hsl hsh;go_wp2_with fail;refine(cmp_is M (by have:=HMS.out;omega) _ _ lo hi ci HCI.out _ (N3.out.mono HX.out) (N4.out.mono HX.out) BL.out BH.out).mono ?_;rintro e a2 ⟨rfl,kq⟩;clear x0 x1 x2 y0 y1 y2
      replace HX:=ZZ (al HX.out kq)
      clear kq;obtain⟨⟨x0,x1,x2⟩,y0,y1,y2⟩:=HCX.out _ (HX.out);go_wp2_with fail;refine(cmp_is M (by have:=HMS.out;omega) _ _ lo hi ci HCI.out _ (N3.out.mono HX.out) (N4.out.mono HX.out) BL.out BH.out).mono ?_;rintro e a3 ⟨rfl,kq⟩;clear x0 x1 x2 y0 y1 y2
      replace HX:=ZZ (al HX.out kq)
      clear kq;obtain⟨⟨x0,x1,x2⟩,y0,y1,y2⟩:=HCX.out _ (HX.out);go_wp2_with fail;refine(eval_p M HM0.out _ _ p lo (by have:=HL14.out;omega) (by have h1:=HL14.out;have h2:=HMS.out;have h3:p.length*(M+M+1)≤14*(M+M+1):=Nat.mul_le_mul_right _ h1;omega) _ (PP.out.mono HX.out) (N3.out.mono HX.out) BPM.out BL.out).mono ?_;rintro e a4 ⟨v4,rfl,hev,kq⟩;clear x0 x1 x2 y0 y1 y2
      replace HX:=ZZ (al HX.out kq)
      have HEV:=ZZ hev;clear kq hev;obtain⟨s9,A9,k9,ca9,B9,l9,cb9,rfl⟩:=HEV.out.form2;obtain⟨⟨x0,x1,x2⟩,y0,y1,y2⟩:=HCX.out _ (HX.out);go_wp2_with fail;refine(sign_q' _ (evR p lo) _ sl HSL.out HEV.out).mono ?_;rintro e a5 ⟨rfl,kq⟩;clear x0 x1 x2 y0 y1 y2
      replace HX:=ZZ (al HX.out kq)
      clear kq;obtain⟨⟨x0,x1,x2⟩,y0,y1,y2⟩:=HCX.out _ (HX.out);clear HEV;go_wp2_with fail;refine(eval_p M HM0.out _ _ p hi (by have:=HL14.out;omega) (by have h1:=HL14.out;have h2:=HMS.out;have h3:p.length*(M+M+1)≤14*(M+M+1):=Nat.mul_le_mul_right _ h1;omega) _ (PP.out.mono HX.out) (N4.out.mono HX.out) BPM.out BH.out).mono ?_;rintro e a6 ⟨v6,rfl,hev,kq⟩;clear x0 x1 x2 y0 y1 y2
      replace HX:=ZZ (al HX.out kq)
      have HEV:=ZZ hev;clear kq hev;obtain⟨s9,A9,k9,ca9,B9,l9,cb9,rfl⟩:=HEV.out.form2;obtain⟨⟨x0,x1,x2⟩,y0,y1,y2⟩:=HCX.out _ (HX.out);go_wp2_with fail;refine(sign_q' _ (evR p hi) _ sh HSH.out HEV.out).mono ?_;rintro e a7 ⟨rfl,kq⟩;clear x0 x1 x2 y0 y1 y2
      replace HX:=ZZ (al HX.out kq)
      clear kq;obtain⟨⟨x0,x1,x2⟩,y0,y1,y2⟩:=HCX.out _ (HX.out);clear HEV;skip;obtain⟨z1,hz1,hz1'⟩:∃z,cmpQ lo' lo=z∧¬ z<0:=⟨_,rfl,cmp_ge H3.out.1⟩;have Z1:=ZZ hz1;obtain⟨z2,hz2,hz2'⟩:∃z,cmpQ hi' hi=z∧¬ 0<z:=⟨_,rfl,cmp_not H3.out.2.1⟩;have Z2:=ZZ hz2;have r1:decide (z1<0)=false:=decide_eq_false hz1';have r2:decide (0<z2)=false:=decide_eq_false hz2';clear hz1 hz1' hz2 hz2';skip
      have HCS:=ZZ (show ∀W,Ext WX W→(W.cell? ⟨g1,0,none⟩=some (.bool s3)∧W.cell? ⟨g1,1,none⟩=some (.slice A3 k3 ca3)∧W.cell? ⟨g1,2,none⟩=some (.slice B3 l3 cb3))∧(W.cell? ⟨g2,0,none⟩=some (.bool s4)∧W.cell? ⟨g2,1,none⟩=some (.slice A4 k4 ca4)∧W.cell? ⟨g2,2,none⟩=some (.slice B4 l4 cb4))∧(W.cell? ⟨bm,j*6,none⟩=some (.bool s5)∧W.cell? ⟨bm,j*6+1,none⟩=some (.slice A5 k5 ca5)∧W.cell? ⟨bm,j*6+2,none⟩=some (.slice B5 l5 cb5))∧W.cell? ⟨bm,j*6+3,none⟩=some (.bool s6)∧W.cell? ⟨bm,j*6+4,none⟩=some (.slice A6 k6 ca6)∧W.cell? ⟨bm,j*6+5,none⟩=some (.slice B6 l6 cb6) from fun W k=>by
       obtain⟨u1,u2⟩:=HCX.out W k;obtain⟨t0,t1,t2,t3,t4,t5⟩:=HCM.out W k;exact⟨u1,u2,⟨t0,t1,t2⟩,t3,t4,t5⟩)
      clear x0 x1 x2 y0 y1 y2
      rcases Nat.eq_zero_or_pos j with hj|hj
      ·have r0:decide ((0:Int)<(j:Int))=false:=decide_eq_false (by omega)
       have r0':decide (0<j)=false:=decide_eq_false (by omega);clear hj
       go_upto_region 21 with (fail)
       have HY0:=ZZ (al HX.out (ae a7));refine wp_region_noPanic ?_;refine wp_region_held_drew (S:=fun W=>(W.cell? ⟨g1,0,none⟩=some (.bool s3)∧W.cell? ⟨g1,1,none⟩=some (.slice A3 k3 ca3)∧W.cell? ⟨g1,2,none⟩=some (.slice B3 l3 cb3))∧(W.cell? ⟨g2,0,none⟩=some (.bool s4)∧W.cell? ⟨g2,1,none⟩=some (.slice A4 k4 ca4)∧W.cell? ⟨g2,2,none⟩=some (.slice B4 l4 cb4))∧(W.cell? ⟨bm,j*6,none⟩=some (.bool s5)∧W.cell? ⟨bm,j*6+1,none⟩=some (.slice A5 k5 ca5)∧W.cell? ⟨bm,j*6+2,none⟩=some (.slice B5 l5 cb5))∧W.cell? ⟨bm,j*6+3,none⟩=some (.bool s6)∧W.cell? ⟨bm,j*6+4,none⟩=some (.slice A6 k6 ca6)∧W.cell? ⟨bm,j*6+5,none⟩=some (.slice B6 l6 cb6)) (by kernel_rfl) (HCS.out _ HY0.out) (fun hHeld=>?_);refine take_a 0 171 ?_;refine take_a 1 172 ?_;refine take_a 2 173 ?_;refine take_p (i:=3) 174 (v:=undef) rfl rfl (by kernel_rfl) (by kernel_rfl) (by kernel_rfl) (fun _ _ _ h=>h) (Or.inr ⟨rfl,rfl⟩) (by assumption) ?_
       try simp only [Act.put,lyA,lyB,lyC]
       refine take_p (i:=4) 175 (v:=undef) rfl rfl (by kernel_rfl) (by kernel_rfl) (by kernel_rfl) (fun _ _ _ h=>h) (Or.inr ⟨rfl,rfl⟩) (by assumption) ?_
       try simp only [Act.put,lyA,lyB,lyC]
       refine take_p (i:=5) 176 (v:=undef) rfl rfl (by kernel_rfl) (by kernel_rfl) (by kernel_rfl) (fun _ _ _ h=>h) (Or.inr ⟨rfl,rfl⟩) (by assumption) ?_
       try simp only [Act.put,lyA,lyB,lyC]
       refine take_p (i:=6) 177 (v:=undef) rfl rfl (by kernel_rfl) (by kernel_rfl) (by kernel_rfl) (fun _ _ _ h=>h) (Or.inr ⟨rfl,rfl⟩) (by assumption) ?_
       try simp only [Act.put,lyA,lyB,lyC]
       refine take_p (i:=7) 178 (v:=undef) rfl rfl (by kernel_rfl) (by kernel_rfl) (by kernel_rfl) (fun _ _ _ h=>h) (Or.inr ⟨rfl,rfl⟩) (by assumption) ?_
       try simp only [Act.put,lyA,lyB,lyC]
       refine take_p (i:=8) 179 (v:=undef) rfl rfl (by kernel_rfl) (by kernel_rfl) (by kernel_rfl) (fun _ _ _ h=>h) (Or.inr ⟨rfl,rfl⟩) (by assumption) ?_
       try simp only [Act.put,lyA,lyB,lyC]
       refine take_p (i:=9) 180 (v:=undef) rfl rfl (by kernel_rfl) (by kernel_rfl) (by kernel_rfl) (fun _ _ _ h=>h) (Or.inr ⟨rfl,rfl⟩) (by assumption) ?_
       try simp only [Act.put,lyA,lyB,lyC]
       refine call_p (i:=10) (some 181) rfl rfl (by kernel_rfl) (fun K hK=>?_);rw [if_neg (by exact Bool.false_ne_true)];refine hK.out _ _ (by assumption) (fun hHeld=>?_);clear hK K
       try simp only [Act.put,lyA,lyB,lyC]
       refine take_p (i:=11) 182 (v:=undef) rfl rfl (by kernel_rfl) (by kernel_rfl) (by kernel_rfl) (fun _ _ _ h=>h) (Or.inr ⟨rfl,rfl⟩) (by assumption) ?_
       try simp only [Act.put,lyA,lyB,lyC]
       refine take_a 12 183 ?_;refine take_a 13 184 ?_;refine take_a 14 185 ?_;refine take_a 15 186 ?_;refine take_a 16 187 ?_;refine take_a 17 188 ?_;refine take_a 18 189 ?_;refine take_a 19 190 ?_;refine call_p (i:=20) (some 191) rfl rfl (by kernel_rfl) (fun K hK=>?_)
       go_simp
       go_at_call 17
       refine(cmp_is M (by have:=HMS.out;omega) _ _ lo' lo z1 Z1.out _ (N5.out.mono HY0.out) (N3.out.mono HY0.out) H3.out.2.2.1 BL.out).mono ?_;rintro e y1q ⟨rfl,kk⟩;have HY1:=ZZ (al HY0.out kk);clear kk
       try go_wp2_with fail
       refine hK.out _ _ (HCS.out _ HY1.out) (fun hHeld=>?_);clear hK K
       try simp only [Act.put,lyA,lyB,lyC]
       refine take_a 21 192 ?_;refine take_a 22 193 ?_;refine take_a 23 194 ?_;refine take_a 24 195 ?_;refine take_a 25 196 ?_;refine take_a 26 197 ?_;refine take_a 27 198 ?_;refine take_a 28 199 ?_;refine take_a 29 200 ?_;refine call_p (i:=30) (some 201) rfl rfl (by kernel_rfl) (fun K hK=>?_)
       go_simp
       go_at_call 17
       refine(cmp_is M (by have:=HMS.out;omega) _ _ hi' hi z2 Z2.out _ (N6.out.mono HY1.out) (N4.out.mono HY1.out) H3.out.2.2.2 BH.out).mono ?_;rintro e y2q ⟨rfl,kk⟩;have HY2:=ZZ (al HY1.out kk);clear kk
       try go_wp2_with fail
       refine hK.out _ _ (HCS.out _ HY2.out) (fun hHeld=>?_);clear hK K
       try simp only [Act.put,lyA,lyB,lyC]
       refine take_a 31 202 ?_;refine take_a 32 203 ?_;refine wpAnyH_done (by kernel_rfl) ?_ _;refine NoPanic.normal ?_;have HYL:=HY2;clear HCS;go_wp2_with fail
       go_roundg (gk - 1)
       case measure=>have:=HZ9.out;omega
       case rel=>exact⟨j+1,ZZ (by have:=HJ.out;have:=HZ9.out;omega),rfl,ZZ (al HEX.out (HYL.out))⟩
      ·have r0:decide ((0:Int)<(j:Int))=true:=decide_eq_true (by omega)
       have r0':decide (0<j)=true:=decide_eq_true (by omega);obtain⟨jp,hjp⟩:∃k,j=k+1:=⟨j - 1,by omega⟩
       have r3:IntKind.i64.wrap ((j:Int) - 1)=(jp:Int):=by
        have:=HJ30.out
        rw [show (j:Int) - 1=(jp:Int) by omega];exact IntWalk.i64_in _ (by omega)
       have r7:IntKind.i64.wrap (jp:Int)=(jp:Int):=by
        have:=HJ30.out
        exact IntWalk.i64_in _ (by omega)
       have r4:(0:Int)≤(jp:Int):=by omega
       have r5:(jp:Int)<(nl:Int):=by have:=HJN.out;omega
       obtain⟨⟨pl,ph⟩,hpr⟩:∃a,L[jp]?=some a:=⟨L[jp]'(by rw [HNL.out];have:=HJN.out;omega),List.getElem?_eq_getElem _⟩;have hso:=HS.out jp hjp.symm _ hpr;have hbp:=(HF.out.one jp _ hpr).2.2.1;obtain⟨bp,s7,A7,k7,ca7,B7,l7,cb7,s8,A8,k8,ca8,B8,l8,cb8,ebp,⟨-,-,-,t3,t4,t5⟩,-,hn8⟩:=PLW.out.at_ hpr
       injection ebp with ebp
       injection ebp with ebp
       subst ebp;have N8:=ZZ (hn8.mono HXR.out);have BPV:=ZZ (show Bq M ph from hbp);obtain⟨z3,hz3,hz3'⟩:∃z,cmpQ ph lo=z∧¬ 0<z:=⟨_,rfl,cmp_not hso⟩;have Z3:=ZZ hz3;have r6:decide (0<z3)=false:=decide_eq_false hz3'
       have HCQ:=ZZ (show ∀W,Ext WX W→((W.cell? ⟨g1,0,none⟩=some (.bool s3)∧W.cell? ⟨g1,1,none⟩=some (.slice A3 k3 ca3)∧W.cell? ⟨g1,2,none⟩=some (.slice B3 l3 cb3))∧(W.cell? ⟨g2,0,none⟩=some (.bool s4)∧W.cell? ⟨g2,1,none⟩=some (.slice A4 k4 ca4)∧W.cell? ⟨g2,2,none⟩=some (.slice B4 l4 cb4))∧(W.cell? ⟨bm,j*6,none⟩=some (.bool s5)∧W.cell? ⟨bm,j*6+1,none⟩=some (.slice A5 k5 ca5)∧W.cell? ⟨bm,j*6+2,none⟩=some (.slice B5 l5 cb5))∧W.cell? ⟨bm,j*6+3,none⟩=some (.bool s6)∧W.cell? ⟨bm,j*6+4,none⟩=some (.slice A6 k6 ca6)∧W.cell? ⟨bm,j*6+5,none⟩=some (.slice B6 l6 cb6))∧W.cell? ⟨bl,jp*6+3,none⟩=some (.bool s8)∧W.cell? ⟨bl,jp*6+4,none⟩=some (.slice A8 k8 ca8)∧W.cell? ⟨bl,jp*6+5,none⟩=some (.slice B8 l8 cb8) from fun W k=>by
        have k2:=al HXR.out k;exact⟨HCS.out W k,ao k2 t3,ao k2 t4,ao k2 t5⟩)
       clear t3 t4 t5 hn8 hz3 hz3' hso hbp hpr hj hjp
       go_upto_region 21 with (fail)
       have HY0:=ZZ (al HX.out (ae a7));refine wp_region_noPanic ?_;refine wp_region_held_drew (S:=fun W=>((W.cell? ⟨g1,0,none⟩=some (.bool s3)∧W.cell? ⟨g1,1,none⟩=some (.slice A3 k3 ca3)∧W.cell? ⟨g1,2,none⟩=some (.slice B3 l3 cb3))∧(W.cell? ⟨g2,0,none⟩=some (.bool s4)∧W.cell? ⟨g2,1,none⟩=some (.slice A4 k4 ca4)∧W.cell? ⟨g2,2,none⟩=some (.slice B4 l4 cb4))∧(W.cell? ⟨bm,j*6,none⟩=some (.bool s5)∧W.cell? ⟨bm,j*6+1,none⟩=some (.slice A5 k5 ca5)∧W.cell? ⟨bm,j*6+2,none⟩=some (.slice B5 l5 cb5))∧W.cell? ⟨bm,j*6+3,none⟩=some (.bool s6)∧W.cell? ⟨bm,j*6+4,none⟩=some (.slice A6 k6 ca6)∧W.cell? ⟨bm,j*6+5,none⟩=some (.slice B6 l6 cb6))∧W.cell? ⟨bl,jp*6+3,none⟩=some (.bool s8)∧W.cell? ⟨bl,jp*6+4,none⟩=some (.slice A8 k8 ca8)∧W.cell? ⟨bl,jp*6+5,none⟩=some (.slice B8 l8 cb8)) (by kernel_rfl) (HCQ.out _ HY0.out) (fun hHeld=>?_);refine take_a 0 171 ?_;refine take_a 1 172 ?_;refine take_a 2 173 ?_;refine take_a 3 174 ?_;refine take_a 4 175 ?_;refine take_a 5 176 ?_;refine take_a 6 177 ?_;refine take_a 7 178 ?_;refine take_a 8 179 ?_;refine take_a 9 180 ?_;refine call_p (i:=10) (some 181) rfl rfl (by kernel_rfl) (fun K hK=>?_)
       go_simp
       go_at_call 17
       refine(cmp_is M (by have:=HMS.out;omega) _ _ ph lo z3 Z3.out _ (N8.out.mono HY0.out) (N3.out.mono HY0.out) BPV.out BL.out).mono ?_;rintro e y1q ⟨rfl,kk⟩;have HY1:=ZZ (al HY0.out kk);clear kk
       try go_wp2_with fail
       refine hK.out _ _ (HCQ.out _ HY1.out) (fun hHeld=>?_);clear hK K
       try simp only [Act.put,lyA,lyB,lyC]
       refine take_a 11 182 ?_;refine take_a 12 183 ?_;refine take_a 13 184 ?_;refine take_a 14 185 ?_;refine take_a 15 186 ?_;refine take_a 16 187 ?_;refine take_a 17 188 ?_;refine take_a 18 189 ?_;refine take_a 19 190 ?_;refine call_p (i:=20) (some 191) rfl rfl (by kernel_rfl) (fun K hK=>?_)
       go_simp
       go_at_call 17
       refine(cmp_is M (by have:=HMS.out;omega) _ _ lo' lo z1 Z1.out _ (N5.out.mono HY1.out) (N3.out.mono HY1.out) H3.out.2.2.1 BL.out).mono ?_;rintro e y2q ⟨rfl,kk⟩;have HY2:=ZZ (al HY1.out kk);clear kk
       try go_wp2_with fail
       refine hK.out _ _ (HCQ.out _ HY2.out) (fun hHeld=>?_);clear hK K
       try simp only [Act.put,lyA,lyB,lyC]
       refine take_a 21 192 ?_;refine take_a 22 193 ?_;refine take_a 23 194 ?_;refine take_a 24 195 ?_;refine take_a 25 196 ?_;refine take_a 26 197 ?_;refine take_a 27 198 ?_;refine take_a 28 199 ?_;refine take_a 29 200 ?_;refine call_p (i:=30) (some 201) rfl rfl (by kernel_rfl) (fun K hK=>?_)
       go_simp
       go_at_call 17
       refine(cmp_is M (by have:=HMS.out;omega) _ _ hi' hi z2 Z2.out _ (N6.out.mono HY2.out) (N4.out.mono HY2.out) H3.out.2.2.2 BH.out).mono ?_;rintro e y3q ⟨rfl,kk⟩;have HY3:=ZZ (al HY2.out kk);clear kk
       try go_wp2_with fail
       refine hK.out _ _ (HCQ.out _ HY3.out) (fun hHeld=>?_);clear hK K
       try simp only [Act.put,lyA,lyB,lyC]
       refine take_a 31 202 ?_;refine take_a 32 203 ?_;refine wpAnyH_done (by kernel_rfl) ?_ _;refine NoPanic.normal ?_;have HYL:=HY3;clear HCQ;clear HCS;go_wp2_with fail
       go_roundg (gk - 1)
       case measure=>have:=HZ9.out;omega
       case rel=>exact⟨j+1,ZZ (by have:=HJ.out;have:=HZ9.out;omega),rfl,ZZ (al HEX.out (HYL.out))⟩
  ·
   have HZ:=ZZ (show askF p=8 from (ask_or HL.out).resolve_left hz);clear hz;go_wp2_with fail;refine(roots_p 2000 0 0 (by decide) (by decide) _ p (n:Int) (by have:=HNN.out;omega) (by have:=HL.out;omega) _ PP.out (fun h=>by rw [HZ.out] at h;cases h) ([],8) (by unfold rootsE;rw [if_neg (by rw [HZ.out];decide),HZ.out])).mono ?_;rintro e w3 ⟨vl,rfl,hq,kq⟩
   replace EB:=ZZ (al EB.out kq)
   replace PP:=ZZ (PP.out.mono kq)
   have PL:=ZZ hq;clear kq hq;clear PL;go_wp2_with fail;refine(roots_p 2000 0 0 (by decide) (by decide) _ p ((n:Int)+3) (by have:=HNN.out;omega) (by have:=HL.out;omega) _ PP.out (fun h=>by rw [HZ.out] at h;cases h) ([],8) (by unfold rootsE;rw [if_neg (by rw [HZ.out];decide),HZ.out])).mono ?_;rintro e w4 ⟨vm,rfl,hq,kq⟩
   replace EB:=ZZ (al EB.out kq)
   replace PP:=ZZ (PP.out.mono kq)
   have PL:=ZZ hq;clear kq hq;clear PL;go_wp2_with fail;refine(boundx_p _ p (by have:=HL.out;omega) _ PP.out BP.out (0,8) (by unfold boundE;rw [if_neg (by rw [HZ.out];decide),HZ.out])).mono ?_;rintro e w5 ⟨vb,rfl,hq,kq⟩
   replace EB:=ZZ (al EB.out kq)
   replace PP:=ZZ (PP.out.mono kq)
   have PB:=ZZ hq;clear kq hq;obtain⟨s1,A1,k1,ca1,B1,l1,cb1,eb1⟩:=PB.out.form2
   replace eb1:vb=.agg #[.bool s1,.slice A1 k1 ca1,.slice B1 l1 cb1]:=eb1
   subst eb1;clear PB
   replace EB:=ZZ (al EB.out (ac w5 (.cells #[.bool s1,.slice A1 k1 ca1,.slice B1 l1 cb1] 36)))
   go_wp2_with fail;refine(awake_p _ (HT.out.mono EB.out)).mono ?_
   rintro e wz ⟨rfl,kz⟩;have KZ:=ZZ (al EB.out kz);clear kz;go_wp2_with fail;go_ret;exact⟨rfl,al EW.out KZ.out⟩
end Go.Proofs.YtaaoleakkaloeaaGreatDoor
