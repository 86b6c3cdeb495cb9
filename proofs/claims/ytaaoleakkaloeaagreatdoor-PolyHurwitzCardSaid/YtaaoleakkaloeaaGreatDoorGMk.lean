/- The walk of PolyHurwitz. Printed by gen_mk.py. -/
import Derived.Test.YtaaoleakkaloeaaGreatDoorGYz
import Derived.Test.YtaaoleakkaloeaaGreatDoorGMe
import Derived.Test.YtaaoleakkaloeaaGreatDoorGYt
import Derived.Deep.DeepCutAuto
set_option linter.unusedVariables false
set_option maxRecDepth 100000
set_option maxHeartbeats 64000000
namespace Go.Proofs.YtaaoleakkaloeaaGreatDoor
open Go Go.RowKit
set_option linter.unusedSimpArgs false
theorem ask_gd {P:List Rat} (ht:trimF P=P) (hl:P.length≤14):(P=[]∧askF P=8)∨(Gd P∧askF P=0):=by
 unfold askF;have h1:bigF P=false:=by unfold bigF;rw [ht];exact decide_eq_false (by omega)
 rw [h1,ht]
 by_cases h2:P=[]
 ·exact .inl ⟨h2,by rw [if_pos h2];rfl⟩
 ·refine .inr ⟨⟨?_,ht⟩,by rw [if_neg h2];rfl⟩
  unfold dgF;rw [ht];exact List.length_pos_iff.2 h2
theorem hurwitz_c (v0:Value) (l0:List (List UInt8)) (w:World) (h0:Stl w v0 l0) (ht:Tens w):Calls Tryz.prog 3 #[v0] w fun e w'=>e=.returned (.bool true)∧Ext w w':=by
 obtain⟨Q0,c0,rfl,-⟩:=h0.form;obtain⟨n0,hn0⟩:∃n,l0.length=n:=⟨_,rfl⟩;rw [hn0] at h0 ⊢;have HS0:=ZZ h0;have HT:=ZZ ht;have HN0:=ZZ hn0;clear h0 ht hn0;have EA:=ZZ (ab w (.cells #[.slice Q0 n0 c0] 22))
 have GL:=ZZ (show Gl (w.alloc (.cells #[.slice Q0 n0 c0] 22)) (.slice (some ⟨w.heap.size,0,none⟩) 1 1) [(.slice Q0 n0 c0,l0)] from by
  have hr:=heap_alloc_new w (.cells #[.slice Q0 n0 c0] 22);refine⟨_,1,rfl,fun i y hy=>?_⟩
  match i,hy with
  | 0,hy=>obtain rfl:=Option.some.inj hy;exact⟨by rw [cell_of_row _ _ _ _ _ _ hr];rfl,HS0.out.mono EA.out⟩)
 have hun:undef=.tuple #[]:=rfl
 go_enter Tryz.func3,Tryz.ntmps3
 go_wp2_with fail;generalize World.alloc w (.cells #[.slice Q0 n0 c0] _)=W0 at *
 generalize hwg:w.heap.size=g0 at *;refine(great_p _ [(.slice Q0 n0 c0,l0)] (by simp) _ GL.out).mono ?_;rintro e w1 ⟨rfl,kk1⟩;have K1:=ZZ (ak EA.out kk1);obtain⟨d,hd⟩:∃d,greatF [(.slice Q0 n0 c0,l0)]=d:=⟨_,rfl⟩;rw [hd];clear hd kk1 hwg GL EA
 cases d with
 | true=>
  go_wp2_with fail;refine(awake_p _ (HT.out.mono K1.out)).mono ?_
  rintro e wz ⟨rfl,kz⟩;have KZ:=ZZ (ak K1.out kz);clear kz;go_wp2_with fail;go_ret;exact⟨rfl,KZ.out⟩
 | false=>
  rcases Nat.lt_or_ge 14 n0 with z0|z0
  ·have g0:decide ((14:Int)<(n0:Int))=true:=decide_eq_true (by omega)
   have g0':decide (14<n0)=true:=decide_eq_true z0;go_wp2_with fail;refine(awake_p _ (HT.out.mono K1.out)).mono ?_;rintro e wz ⟨rfl,kz⟩;have KZ:=ZZ (ak K1.out kz);clear kz;go_wp2_with fail;go_ret;exact⟨rfl,KZ.out⟩
  have g0:decide ((14:Int)<(n0:Int))=false:=decide_eq_false (by omega);have g0':decide (14<n0)=false:=decide_eq_false (by omega);have HLL0:=ZZ (show l0.length≤14 from by have:=HN0.out;omega);obtain⟨p,hp⟩:∃a,listF l0=a:=⟨_,rfl⟩;have HLA:=ZZ hp;clear hp z0;go_wp2_with fail;refine(list_14 _ l0 _ (HS0.out.mono K1.out) HLL0.out).mono ?_;rintro e w2 ⟨vp,xc,rfl,ha,kk2⟩;rw [HLA.out] at ha;have HL0:=ZZ ha.2.1;have BP0:=ZZ ha.2.2;have PP0:=ZZ ha.1;have K2:=ZZ (ak K1.out kk2);clear ha kk2 K1 HLA HS0 HLL0 HN0 g0 g0';go_wp2_with fail;refine(trim_q _ p (by have:=HL0.out;omega) _ PP0.out).mono ?_;rintro e w3 ⟨v3,rfl,h3,kk3⟩;have EW:=ZZ (ak K2.out kk3);have EB:=ZZ (ae w3)
  replace HT:=ZZ (HT.out.mono EW.out)
  have h4:=h3.pl;have htt:trimF (trimF p)=trimF p:=trim_trim p;have htl:=trim_le p;have hbb:∀x ∈ trimF p,Bq 4001 x:=fun x hx=>BP0.out x (trim_mem hx);generalize trimF p=P at *;have HL:=ZZ (show P.length≤14 from by have:=HL0.out;omega);have BP:=ZZ hbb;have PP:=ZZ h4;have HTT:=ZZ htt;obtain⟨n,hn⟩:∃n,P.length=n:=⟨_,rfl⟩;obtain⟨A,cP,rfl,hcP,hA⟩:=id h4;rw [hn] at h4 hcP ⊢
  replace PP:=ZZ h4
  have HNP:=ZZ hn;have HA:=ZZ hA;have HCP:=ZZ hcP;clear h3 h4 hn htt htl hbb HL0 BP0 PP0 K2 kk3 hA hcP;obtain⟨M,hM⟩:∃M:Nat,M=1739600393:=⟨_,rfl⟩;have HMX:=ZZ (show 0<M∧M≤4294967296 from by omega);have HMG:=ZZ (show 1739600393≤M from by omega);clear hM;have e00:((0:Int) != 0)=false:=rfl;have e01:((0:Int) == 0)=true:=rfl;have e80:((8:Int) != 0)=true:=rfl;have e88:((8:Int) == 8)=true:=rfl
  rcases ask_gd HTT.out HL.out with ⟨hz,hz8⟩|⟨hG,hz0⟩
  ·have HZ:=ZZ hz8
   have hn0:n=0:=by have:=HNP.out;rw [hz] at this;exact this.symm
   clear hz hz8;subst hn0;go_wp2_with fail;refine(routh_p 2000 (by decide) (by decide) _ P (by have:=HL.out;omega) _ PP.out (fun h=>by rw [HZ.out] at h;cases h) (0,0,8) (by unfold routhE;rw [if_neg (by rw [HZ.out];decide),HZ.out])).mono ?_;rintro e w4 ⟨rfl,kk4⟩
   replace EB:=ZZ (ak EB.out kk4)
   clear kk4;have ez:((0:Nat):Int)=0:=rfl;have ez2:(((0:Nat):Int) == 0)=true:=rfl;go_wp2_with fail;refine(awake_p _ (HT.out.mono EB.out)).mono ?_;rintro e wz ⟨rfl,kz⟩;have KZ:=ZZ (ak EB.out kz);clear kz;go_wp2_with fail;go_ret;exact⟨rfl,ak EW.out KZ.out⟩
  ·have HG:=ZZ hG
   have HZ:=ZZ hz0;obtain⟨f1,f2,f3,f4,f5,f6⟩:=hurwitz hG;have HM0:=ZZ (mir_gd hG);obtain⟨r,hr⟩:∃z,(routhF P).1=z:=⟨_,rfl⟩;obtain⟨x,hx⟩:∃z,(routhF P).2=z:=⟨_,rfl⟩;obtain⟨lf,hlf⟩:∃z,(routhF (mirF P)).1=z:=⟨_,rfl⟩;rw [hx] at f1 f2 f5 f6;rw [hr] at f2 f4 f6;rw [hlf] at f2 f3;rw [HNP.out] at f2 f6;have HR:=ZZ (show routhE P=(r,x,0) from by unfold routhE;rw [if_pos HZ.out,hr,hx])
   have HZM:=ZZ (show askF (mirF P)=0 from by
    rcases ask_gd HM0.out.2 (by show (mirK P P.length).length≤14;rw [mirK_len];exact HL.out) with ⟨k1,-⟩|⟨-,k2⟩
    ·exact absurd k1 HM0.out.ne
    ·exact k2)
   have HRM:=ZZ (show routhE (mirF P)=(lf,x,0) from by unfold routhE;rw [if_pos HZM.out,hlf,f1]);have HSG:=ZZ f6;have HSUM:=ZZ f2;have HN1:=ZZ (show 0<n from by have h1:=hG.1;have h2:=hG.len;have h3:=HNP.out;omega);have HN14:=ZZ (show n≤14 from by have h1:=HL.out;have h3:=HNP.out;omega);have HB:=ZZ (show 0≤lf∧0≤r∧0≤x∧lf≤20∧r≤20∧x≤20 from by have h1:=HN14.out;omega);clear f1 f2 f3 f4 f5 f6 hr hx hlf hG hz0;go_wp2_with fail;refine(routh_p M HMX.out.1 HMX.out.2 _ P (by have:=HL.out;omega) _ PP.out (fun _=>routh_ok HMG.out HG.out HL.out BP.out) (r,x,0) HR.out).mono ?_;rintro e w4 ⟨rfl,kk4⟩
   replace EB:=ZZ (ak EB.out kk4)
   replace PP:=ZZ (PP.out.mono kk4)
   replace HT:=ZZ (HT.out.mono EB.out)
   replace EW:=ZZ (ak EW.out EB.out)
   clear EB kk4
   obtain⟨b,o,rfl,ht0⟩:∃b o,A=some ⟨b,o,none⟩∧True:=by
    rcases HA.out with ⟨-,h5⟩|⟨b,o,rfl,-⟩
    ·exact absurd h5 HG.out.ne
    ·exact⟨b,o,rfl,trivial⟩
   clear HA ht0
   have HNEG:=ZZ (show ∀(i:Nat) (q:Rat),P[i]?=some q→∃s A k ca C m cb,w4.cell? ⟨b,o+i*3,none⟩=some (.bool s)∧w4.cell? ⟨b,o+i*3+1,none⟩=some (.slice A k ca)∧w4.cell? ⟨b,o+i*3+2,none⟩=some (.slice C m cb)∧Nm w4 (.agg #[.bool s,.slice A k ca,.slice C m cb]) q from by
    obtain⟨A',cap',e',-,hA'⟩:=PP.out
    injection e' with e1 e2 e3
    rcases hA' with ⟨h1,h5⟩|⟨b',o',e4,ht⟩
    ·exact absurd h5 HG.out.ne
    ·rw [←e1] at e4
     injection e4 with e4
     injection e4 with e5 e6
     subst e5 e6;intro i q hq;exact ht i q hq)
   go_wp2_with fail
   go_loopg [9,8] n (fun k i u wr=>∃j,Hid (j+k=n)∧i=.int .i64 (j:Int)∧Hid (OwnP wr w4.heap.size u (mirK P j))∧Hid (Ext w4 wr))
   case atStart=>exact⟨0,ZZ (Nat.zero_add _),rfl,ZZ (OwnP.nil _ _),ZZ (ae _)⟩
   case round=>
    obtain⟨j,HJ,rfl,HO,HE⟩:=hrel;rename World=>WR;rename Value=>u
    rcases Nat.eq_zero_or_pos gk with hz|hz
    ·subst hz
     obtain rfl:j=n:=HJ.out;have q1:decide ((j:Int)<(j:Int))=false:=decide_eq_false (Int.lt_irrefl _);obtain⟨mm,hmm⟩:∃l,mirK P j=l:=⟨_,rfl⟩;rw [hmm] at HO;have HMI:=ZZ (show mirF P=mm from by rw [←hmm,←HNP.out];rfl);have HML:=ZZ (show mm.length≤14 from by rw [←hmm,mirK_len];exact HN14.out)
     have HMB:=ZZ (show ∀q ∈ mm,Bq 4001 q from by
      rw [←HMI.out];refine bq_all fun i=>?_;rw [co_mir]
      have:=co_bq (B:=4001) (by decide) BP.out i
      split
      ·exact this.neg
      ·exact this)
     clear hmm;go_wp2_with fail;refine(routh_p M HMX.out.1 HMX.out.2 _ mm (by have:=HML.out;omega) _ HO.out.pl (fun _=>routh_ok HMG.out (HMI.out ▸ HM0.out) HML.out HMB.out) (lf,x,0) (HMI.out ▸ HRM.out)).mono ?_;rintro e w5 ⟨rfl,kk5⟩
     replace HE:=ZZ (ak HE.out kk5)
     clear kk5;have PP5:=ZZ (PP.out.mono HE.out);have q2:(x == x)=true:=by simp
     have q3:IntKind.i64.wrap (lf+r)=lf+r:=by have:=HB.out;exact IntWalk.i64_in _ (by omega)
     have q4:IntKind.i64.wrap (lf+r+x)=(j:Int) - 1:=by have h1:=HB.out;have h2:=HSUM.out;rw [h2];exact IntWalk.i64_in _ (by omega)
     have q5:decide ((0:Int)≤lf)=true:=decide_eq_true HB.out.1;have q6:decide ((0:Int)≤r)=true:=decide_eq_true HB.out.2.1;have q7:decide ((0:Int)≤x)=true:=decide_eq_true HB.out.2.2.1;have q8:((j:Int) - 1 == (j:Int) - 1)=true:=by simp
     go_wp2_with fail;refine(deg_q _ P (by have:=HL.out;omega) _ PP5.out).mono ?_
     rintro e w6 ⟨rfl,kk6⟩;rw [HTT.out,HNP.out]
     replace HE:=ZZ (ak HE.out kk6)
     clear kk6;go_wp2_with fail;refine(awake_p _ (HT.out.mono HE.out)).mono ?_;rintro e wz ⟨rfl,kz⟩;have KZ:=ZZ (ak HE.out kz);clear kz;go_wp2_with fail;go_ret;exact⟨rfl,ak EW.out KZ.out⟩
    have hjn:j<n:=by have:=HJ.out;omega
    have q1:decide ((j:Int)<(n:Int))=true:=decide_eq_true (by omega);have q4:(j:Int)<(n:Int):=by omega
    have q5:(0:Int)≤(j:Int):=by omega
    have q14:=HN14.out;have q9:(0:Int)<(n:Int):=by omega
    have q10:0<n:=HN1.out
    have q6:IntKind.i64.wrap ((j:Int)+1)=(((j+1:Nat)):Int):=by
     rw [show (((j+1:Nat)):Int)=(j:Int)+1 by omega];exact IntWalk.i64_in _ (by omega)
    obtain⟨q,hq⟩:∃q,P[j]?=some q:=⟨P[j]'(by rw [HNP.out];exact hjn),List.getElem?_eq_getElem _⟩;obtain⟨q',hq'⟩:∃q,P[0]?=some q:=⟨P[0]'(by rw [HNP.out];omega),List.getElem?_eq_getElem _⟩;obtain⟨s2,A2,k2,ca2,B2,l2,cb2,c0,c1,c2,hcn⟩:=HNEG.out j q hq;obtain⟨s1,A1,k1,ca1,B1,l1,cb1,z0,z1,z2,hcz⟩:=HNEG.out 0 q' hq';have HQ:=ZZ hq;have HQ':=ZZ hq';have HCN:=ZZ hcn;have HCZ:=ZZ hcz;have HC:=ZZ (show ∀W,Ext w4 W→(W.cell? ⟨b,o+j*3,none⟩=some (.bool s2)∧W.cell? ⟨b,o+j*3+1,none⟩=some (.slice A2 k2 ca2)∧W.cell? ⟨b,o+j*3+2,none⟩=some (.slice B2 l2 cb2))∧(W.cell? ⟨b,o,none⟩=some (.bool s1)∧W.cell? ⟨b,o+1,none⟩=some (.slice A1 k1 ca1)∧W.cell? ⟨b,o+2,none⟩=some (.slice B1 l1 cb1)) from fun W k=>⟨⟨am k c0,am k c1,am k c2⟩,am k (by simpa using z0),am k (by simpa using z1),am k (by simpa using z2)⟩);have HZ9:=ZZ hz;have HJN:=ZZ hjn;have LT:=ZZ (mirK_len P j);have HCO:=ZZ (show co P j=q from by unfold co;rw [HQ.out];rfl);have HCO':=ZZ (show co P 0=q' from by unfold co;rw [HQ'.out];rfl);clear c0 c1 c2 z0 z1 z2 hq hq' hcn hcz hz hjn
    rcases Nat.mod_two_eq_zero_or_one j with hp|hp
    ·have p1:(j:Int).tmod 2=0:=by rw [Int.tmod_eq_emod_of_nonneg (by omega)];omega
     have p2:(j:Int) % 2=0:=by omega
     have p3:((0:Int) == 1)=false:=rfl;have HPAR:=ZZ (show (if j % 2=1 then -co P j else co P j)=q from by rw [if_neg (by omega),HCO.out]);clear hp;obtain⟨⟨c0,c1,c2⟩,-⟩:=HC.out _ HE.out;have E6:=ZZ (show Ext WR (WR.alloc (.cells #[.bool s2,.slice A2 k2 ca2,.slice B2 l2 cb2] 36)) from ab WR _);have H5:=ZZ (show Nm (WR.alloc (.cells #[.bool s2,.slice A2 k2 ca2,.slice B2 l2 cb2] 36)) (.agg #[.bool s2,.slice A2 k2 ca2,.slice B2 l2 cb2]) _ from HCN.out.mono (ak HE.out (ab WR _)));obtain⟨xs,hown,hxs⟩:=HO.out.mono E6.out;have HXS:=ZZ hxs;have HOWN:=ZZ hown;have C3:=ZZ (cells3_new WR (.bool s2) (.slice A2 k2 ca2) (.slice B2 l2 cb2) 36);clear hown hxs
     go_wp2_with (at_builtin;refine wpList_append1 rfl _ _ rfl w4.heap.size _ (mirK P j).length xs rfl HOWN.out ⟨WR.heap.size,0,none⟩ _ [.bool s2,.slice A2 k2 ca2,.slice B2 l2 cb2] rfl rfl C3.out (by intro u hu;simp at hu;rcases hu with rfl|rfl|rfl <;> rfl) (by intro u hu z he;subst he;simp at hu) (by have h1:=LT.out;have h2:=HN14.out;have h4:=HJN.out;omega) (ak HE.out E6.out).size ?_;intro v' w7 hown7 hgrow)
     have HP7:=ZZ (OwnP.snoc HOWN.out HXS.out H5.out hgrow hown7);have E7:=ZZ (ext_grown1 (ak HE.out E6.out) HOWN.out hgrow);clear hown7 hgrow;clear c0 c1 c2 p1 p2
     by_cases hr0:r=0
     ·by_cases hx0:x=0
      ·have HR00:=ZZ hr0
       have HX00:=ZZ hx0;obtain⟨sg,hsg⟩:∃z,q'.num.sign=z:=⟨_,rfl⟩;have HSQ:=ZZ hsg;have gh1:(r == 0)=true:=beq_iff_eq.2 hr0;have gh2:(x == 0)=true:=beq_iff_eq.2 hx0;have gh3:(sg != sg)=false:=by simp
       clear hsg hr0 hx0
       go_upto_region 15 with (fail)
       have HXE:=ZZ (show Ext w7 w7.drew from ac _);refine wp_region_noPanic ?_;refine wp_region_held_drew (S:=fun W=>(W.cell? ⟨b,o+j*3,none⟩=some (.bool s2)∧W.cell? ⟨b,o+j*3+1,none⟩=some (.slice A2 k2 ca2)∧W.cell? ⟨b,o+j*3+2,none⟩=some (.slice B2 l2 cb2))∧(W.cell? ⟨b,o,none⟩=some (.bool s1)∧W.cell? ⟨b,o+1,none⟩=some (.slice A1 k1 ca1)∧W.cell? ⟨b,o+2,none⟩=some (.slice B1 l1 cb1))) (by kernel_rfl) (HC.out _ (ak E7.out HXE.out)) (fun hHeld=>?_);refine take_a 0 71 ?_;refine take_a 1 72 ?_;refine take_a 2 73 ?_;refine take_a 3 74 ?_;refine take_a 4 75 ?_;refine take_a 5 76 ?_;refine take_a 6 77 ?_;refine take_a 7 78 ?_;refine take_a 8 79 ?_;refine take_a 9 80 ?_;refine take_a 10 81 ?_;refine take_a 12 83 ?_;refine take_a 13 84 ?_;refine take_a 14 85 ?_;refine call_p (i:=11) (some 82) rfl rfl (by kernel_rfl) (fun K hK=>?_)
       go_simp
       go_at_call 12
       refine(sign_q' _ q _ sg (by have:=HSG.out HR00.out HX00.out j HJN.out;rw [HCO.out,HCO'.out] at this;rw [this];exact HSQ.out) (HCN.out.mono (ak E7.out HXE.out))).mono ?_;rintro e y2 ⟨rfl,kk2⟩;have HXE1:=ZZ (ak HXE.out kk2);clear kk2
       try go_wp2_with fail
       refine hK.out _ _ (HC.out _ (ak E7.out HXE1.out)) (fun hHeld=>?_);clear hK K
       try simp only [Act.put,lyA,lyB,lyC]
       refine call_p (i:=15) (some 86) rfl rfl (by kernel_rfl) (fun K hK=>?_)
       go_simp
       go_at_call 12
       refine(sign_q' _ q' _ sg (by exact HSQ.out) (HCZ.out.mono (ak E7.out HXE1.out))).mono ?_;rintro e y1 ⟨rfl,kk1⟩;have HXE2:=ZZ (ak HXE1.out kk1);clear kk1
       try go_wp2_with fail
       refine hK.out _ _ (HC.out _ (ak E7.out HXE2.out)) (fun hHeld=>?_);clear hK K
       try simp only [Act.put,lyA,lyB,lyC]
       refine take_a 16 87 ?_;refine take_a 17 88 ?_;refine wpAnyH_done (by kernel_rfl) ?_ _;refine NoPanic.normal ?_;have HXF:=HXE2;clear HXE HXE1 gh1 gh2 gh3;go_wp2_with fail
       go_roundg (gk - 1)
       case measure=>have:=HZ9.out;omega
       case rel=>exact⟨j+1,ZZ (by have:=HJ.out;have:=HZ9.out;omega),rfl,ZZ (by rw [mirK_succ,HPAR.out];exact HP7.out.mono HXF.out),ZZ (ak E7.out HXF.out)⟩
      ·have gh1:(r == 0)=true:=beq_iff_eq.2 hr0
       have gh2:(x == 0)=false:=beq_eq_false_iff_ne.2 hx0
       go_upto_region 15 with (fail)
       refine wp_region_noPanic ?_;refine wp_region_held_drew (S:=fun W=>Ext w4 W) (by kernel_rfl) (ak E7.out (ac _)) (fun hHeld=>?_);refine take_a 0 71 ?_;refine take_a 1 72 ?_;refine take_a 2 73 ?_;refine take_a 3 74 ?_;refine take_a 4 75 ?_;refine take_a 5 76 ?_;refine take_a 6 77 ?_;refine take_p (i:=7) 78 (v:=undef) rfl rfl (by kernel_rfl) (by kernel_rfl) (by kernel_rfl) (fun _ _ _ h=>h) (Or.inr ⟨rfl,rfl⟩) (by assumption) ?_
       try simp only [Act.put,lyA,lyB,lyC]
       refine take_p (i:=8) 79 (v:=undef) rfl rfl (by kernel_rfl) (by kernel_rfl) (by kernel_rfl) (fun _ _ _ h=>h) (Or.inr ⟨rfl,rfl⟩) (by assumption) ?_
       try simp only [Act.put,lyA,lyB,lyC]
       refine take_p (i:=9) 80 (v:=undef) rfl rfl (by kernel_rfl) (by kernel_rfl) (by kernel_rfl) (fun _ _ _ h=>h) (Or.inr ⟨rfl,rfl⟩) (by assumption) ?_
       try simp only [Act.put,lyA,lyB,lyC]
       refine take_p (i:=10) 81 (v:=undef) rfl rfl (by kernel_rfl) (by kernel_rfl) (by kernel_rfl) (fun _ _ _ h=>h) (Or.inr ⟨rfl,rfl⟩) (by assumption) ?_
       try simp only [Act.put,lyA,lyB,lyC]
       refine take_p (i:=12) 83 (v:=undef) rfl rfl (by kernel_rfl) (by kernel_rfl) (by kernel_rfl) (fun _ _ _ h=>h) (Or.inr ⟨rfl,rfl⟩) (by assumption) ?_
       try simp only [Act.put,lyA,lyB,lyC]
       refine take_p (i:=13) 84 (v:=undef) rfl rfl (by kernel_rfl) (by kernel_rfl) (by kernel_rfl) (fun _ _ _ h=>h) (Or.inr ⟨rfl,rfl⟩) (by assumption) ?_
       try simp only [Act.put,lyA,lyB,lyC]
       refine take_p (i:=14) 85 (v:=undef) rfl rfl (by kernel_rfl) (by kernel_rfl) (by kernel_rfl) (fun _ _ _ h=>h) (Or.inr ⟨rfl,rfl⟩) (by assumption) ?_
       try simp only [Act.put,lyA,lyB,lyC]
       refine call_p (i:=11) (some 82) rfl rfl (by kernel_rfl) (fun K hK=>?_);rw [if_neg (by exact Bool.false_ne_true)];refine hK.out _ _ (by assumption) (fun hHeld=>?_);clear hK K
       try simp only [Act.put,lyA,lyB,lyC]
       refine call_p (i:=15) (some 86) rfl rfl (by kernel_rfl) (fun K hK=>?_);rw [if_neg (by exact Bool.false_ne_true)];refine hK.out _ _ (by assumption) (fun hHeld=>?_);clear hK K
       try simp only [Act.put,lyA,lyB,lyC]
       refine take_p (i:=16) 87 (v:=undef) rfl rfl (by kernel_rfl) (by kernel_rfl) (by kernel_rfl) (fun _ _ _ h=>h) (Or.inr ⟨rfl,rfl⟩) (by assumption) ?_
       try simp only [Act.put,lyA,lyB,lyC]
       refine take_a 17 88 ?_;refine wpAnyH_done (by kernel_rfl) ?_ _;refine NoPanic.normal ?_;have HXF:=ZZ (ac w7);clear gh1 gh2;go_wp2_with fail
       go_roundg (gk - 1)
       case measure=>have:=HZ9.out;omega
       case rel=>exact⟨j+1,ZZ (by have:=HJ.out;have:=HZ9.out;omega),rfl,ZZ (by rw [mirK_succ,HPAR.out];exact HP7.out.mono HXF.out),ZZ (ak E7.out HXF.out)⟩
     ·have gh1:(r == 0)=false:=beq_eq_false_iff_ne.2 hr0
      go_upto_region 15 with (fail)
      refine wp_region_noPanic ?_;refine wp_region_held_drew (S:=fun W=>Ext w4 W) (by kernel_rfl) (ak E7.out (ac _)) (fun hHeld=>?_);refine take_a 0 71 ?_;refine take_a 1 72 ?_;refine take_a 2 73 ?_;refine take_p (i:=3) 74 (v:=undef) rfl rfl (by kernel_rfl) (by kernel_rfl) (by kernel_rfl) (fun _ _ _ h=>h) (Or.inr ⟨rfl,rfl⟩) (by assumption) ?_
      try simp only [Act.put,lyA,lyB,lyC]
      refine take_p (i:=4) 75 (v:=undef) rfl rfl (by kernel_rfl) (by kernel_rfl) (by kernel_rfl) (fun _ _ _ h=>h) (Or.inr ⟨rfl,rfl⟩) (by assumption) ?_
      try simp only [Act.put,lyA,lyB,lyC]
      refine take_a 5 76 ?_;refine take_a 6 77 ?_;refine take_p (i:=7) 78 (v:=undef) rfl rfl (by kernel_rfl) (by kernel_rfl) (by kernel_rfl) (fun _ _ _ h=>h) (Or.inr ⟨rfl,rfl⟩) (by assumption) ?_
      try simp only [Act.put,lyA,lyB,lyC]
      refine take_p (i:=8) 79 (v:=undef) rfl rfl (by kernel_rfl) (by kernel_rfl) (by kernel_rfl) (fun _ _ _ h=>h) (Or.inr ⟨rfl,rfl⟩) (by assumption) ?_
      try simp only [Act.put,lyA,lyB,lyC]
      refine take_p (i:=9) 80 (v:=undef) rfl rfl (by kernel_rfl) (by kernel_rfl) (by kernel_rfl) (fun _ _ _ h=>h) (Or.inr ⟨rfl,rfl⟩) (by assumption) ?_
      try simp only [Act.put,lyA,lyB,lyC]
      refine take_p (i:=10) 81 (v:=undef) rfl rfl (by kernel_rfl) (by kernel_rfl) (by kernel_rfl) (fun _ _ _ h=>h) (Or.inr ⟨rfl,rfl⟩) (by assumption) ?_
      try simp only [Act.put,lyA,lyB,lyC]
      refine take_p (i:=12) 83 (v:=undef) rfl rfl (by kernel_rfl) (by kernel_rfl) (by kernel_rfl) (fun _ _ _ h=>h) (Or.inr ⟨rfl,rfl⟩) (by assumption) ?_
      try simp only [Act.put,lyA,lyB,lyC]
      refine take_p (i:=13) 84 (v:=undef) rfl rfl (by kernel_rfl) (by kernel_rfl) (by kernel_rfl) (fun _ _ _ h=>h) (Or.inr ⟨rfl,rfl⟩) (by assumption) ?_
      try simp only [Act.put,lyA,lyB,lyC]
      refine take_p (i:=14) 85 (v:=undef) rfl rfl (by kernel_rfl) (by kernel_rfl) (by kernel_rfl) (fun _ _ _ h=>h) (Or.inr ⟨rfl,rfl⟩) (by assumption) ?_
      try simp only [Act.put,lyA,lyB,lyC]
      refine call_p (i:=11) (some 82) rfl rfl (by kernel_rfl) (fun K hK=>?_);rw [if_neg (by exact Bool.false_ne_true)];refine hK.out _ _ (by assumption) (fun hHeld=>?_);clear hK K
      try simp only [Act.put,lyA,lyB,lyC]
      refine call_p (i:=15) (some 86) rfl rfl (by kernel_rfl) (fun K hK=>?_);rw [if_neg (by exact Bool.false_ne_true)];refine hK.out _ _ (by assumption) (fun hHeld=>?_);clear hK K
      try simp only [Act.put,lyA,lyB,lyC]
      refine take_p (i:=16) 87 (v:=undef) rfl rfl (by kernel_rfl) (by kernel_rfl) (by kernel_rfl) (fun _ _ _ h=>h) (Or.inr ⟨rfl,rfl⟩) (by assumption) ?_
      try simp only [Act.put,lyA,lyB,lyC]
      refine take_a 17 88 ?_;refine wpAnyH_done (by kernel_rfl) ?_ _;refine NoPanic.normal ?_;have HXF:=ZZ (ac w7);clear gh1;go_wp2_with fail
      go_roundg (gk - 1)
      case measure=>have:=HZ9.out;omega
      case rel=>exact⟨j+1,ZZ (by have:=HJ.out;have:=HZ9.out;omega),rfl,ZZ (by rw [mirK_succ,HPAR.out];exact HP7.out.mono HXF.out),ZZ (ak E7.out HXF.out)⟩
    ·have p1:(j:Int).tmod 2=1:=by rw [Int.tmod_eq_emod_of_nonneg (by omega)];omega
     have p2:(j:Int) % 2=1:=by omega
     have p3:((1:Int) == 1)=true:=rfl;have HPAR:=ZZ (show (if j % 2=1 then -co P j else co P j) = -q from by rw [if_pos hp,HCO.out]);clear hp;obtain⟨⟨c0,c1,c2⟩,-⟩:=HC.out _ HE.out;go_wp2_with fail;refine(neg_q _ q _ (HCN.out.mono HE.out)).mono ?_;rintro e w5 ⟨v5,rfl,h5,kk5⟩;obtain⟨s5,A5,k5,ca5,B5,l5,cb5,rfl⟩:=h5.form2;have H50:=ZZ h5;have K50:=ZZ kk5;clear h5 kk5 c0 c1 c2 p1 p2;have E6:=ZZ (show Ext WR (w5.alloc (.cells #[.bool s5,.slice A5 k5 ca5,.slice B5 l5 cb5] 36)) from ak K50.out (ab w5 _));have H5:=ZZ (show Nm (w5.alloc (.cells #[.bool s5,.slice A5 k5 ca5,.slice B5 l5 cb5] 36)) (.agg #[.bool s5,.slice A5 k5 ca5,.slice B5 l5 cb5]) _ from H50.out.mono (ab w5 _));obtain⟨xs,hown,hxs⟩:=HO.out.mono E6.out;have HXS:=ZZ hxs;have HOWN:=ZZ hown;have C3:=ZZ (cells3_new w5 (.bool s5) (.slice A5 k5 ca5) (.slice B5 l5 cb5) 36);clear hown hxs
     go_wp2_with (at_builtin;refine wpList_append1 rfl _ _ rfl w4.heap.size _ (mirK P j).length xs rfl HOWN.out ⟨w5.heap.size,0,none⟩ _ [.bool s5,.slice A5 k5 ca5,.slice B5 l5 cb5] rfl rfl C3.out (by intro u hu;simp at hu;rcases hu with rfl|rfl|rfl <;> rfl) (by intro u hu z he;subst he;simp at hu) (by have h1:=LT.out;have h2:=HN14.out;have h4:=HJN.out;omega) (ak HE.out E6.out).size ?_;intro v' w7 hown7 hgrow)
     have HP7:=ZZ (OwnP.snoc HOWN.out HXS.out H5.out hgrow hown7);have E7:=ZZ (ext_grown1 (ak HE.out E6.out) HOWN.out hgrow);clear hown7 hgrow
     by_cases hr0:r=0
     ·by_cases hx0:x=0
      ·have HR00:=ZZ hr0
       have HX00:=ZZ hx0;obtain⟨sg,hsg⟩:∃z,q'.num.sign=z:=⟨_,rfl⟩;have HSQ:=ZZ hsg;have gh1:(r == 0)=true:=beq_iff_eq.2 hr0;have gh2:(x == 0)=true:=beq_iff_eq.2 hx0;have gh3:(sg != sg)=false:=by simp
       clear hsg hr0 hx0
       go_upto_region 15 with (fail)
       have HXE:=ZZ (show Ext w7 w7.drew from ac _);refine wp_region_noPanic ?_;refine wp_region_held_drew (S:=fun W=>(W.cell? ⟨b,o+j*3,none⟩=some (.bool s2)∧W.cell? ⟨b,o+j*3+1,none⟩=some (.slice A2 k2 ca2)∧W.cell? ⟨b,o+j*3+2,none⟩=some (.slice B2 l2 cb2))∧(W.cell? ⟨b,o,none⟩=some (.bool s1)∧W.cell? ⟨b,o+1,none⟩=some (.slice A1 k1 ca1)∧W.cell? ⟨b,o+2,none⟩=some (.slice B1 l1 cb1))) (by kernel_rfl) (HC.out _ (ak E7.out HXE.out)) (fun hHeld=>?_);refine take_a 0 71 ?_;refine take_a 1 72 ?_;refine take_a 2 73 ?_;refine take_a 3 74 ?_;refine take_a 4 75 ?_;refine take_a 5 76 ?_;refine take_a 6 77 ?_;refine take_a 7 78 ?_;refine take_a 8 79 ?_;refine take_a 9 80 ?_;refine take_a 10 81 ?_;refine take_a 12 83 ?_;refine take_a 13 84 ?_;refine take_a 14 85 ?_;refine call_p (i:=11) (some 82) rfl rfl (by kernel_rfl) (fun K hK=>?_)
       go_simp
       go_at_call 12
       refine(sign_q' _ q _ sg (by have:=HSG.out HR00.out HX00.out j HJN.out;rw [HCO.out,HCO'.out] at this;rw [this];exact HSQ.out) (HCN.out.mono (ak E7.out HXE.out))).mono ?_;rintro e y2 ⟨rfl,kk2⟩;have HXE1:=ZZ (ak HXE.out kk2);clear kk2
       try go_wp2_with fail
       refine hK.out _ _ (HC.out _ (ak E7.out HXE1.out)) (fun hHeld=>?_);clear hK K
       try simp only [Act.put,lyA,lyB,lyC]
       refine call_p (i:=15) (some 86) rfl rfl (by kernel_rfl) (fun K hK=>?_)
       go_simp
       go_at_call 12
       refine(sign_q' _ q' _ sg (by exact HSQ.out) (HCZ.out.mono (ak E7.out HXE1.out))).mono ?_;rintro e y1 ⟨rfl,kk1⟩;have HXE2:=ZZ (ak HXE1.out kk1);clear kk1
       try go_wp2_with fail
       refine hK.out _ _ (HC.out _ (ak E7.out HXE2.out)) (fun hHeld=>?_);clear hK K
       try simp only [Act.put,lyA,lyB,lyC]
       refine take_a 16 87 ?_;refine take_a 17 88 ?_;refine wpAnyH_done (by kernel_rfl) ?_ _;refine NoPanic.normal ?_;have HXF:=HXE2;clear HXE HXE1 gh1 gh2 gh3;go_wp2_with fail
       go_roundg (gk - 1)
       case measure=>have:=HZ9.out;omega
       case rel=>exact⟨j+1,ZZ (by have:=HJ.out;have:=HZ9.out;omega),rfl,ZZ (by rw [mirK_succ,HPAR.out];exact HP7.out.mono HXF.out),ZZ (ak E7.out HXF.out)⟩
      ·have gh1:(r == 0)=true:=beq_iff_eq.2 hr0
       have gh2:(x == 0)=false:=beq_eq_false_iff_ne.2 hx0
       go_upto_region 15 with (fail)
       refine wp_region_noPanic ?_;refine wp_region_held_drew (S:=fun W=>Ext w4 W) (by kernel_rfl) (ak E7.out (ac _)) (fun hHeld=>?_);refine take_a 0 71 ?_;refine take_a 1 72 ?_;refine take_a 2 73 ?_;refine take_a 3 74 ?_;refine take_a 4 75 ?_;refine take_a 5 76 ?_;refine take_a 6 77 ?_;refine take_p (i:=7) 78 (v:=undef) rfl rfl (by kernel_rfl) (by kernel_rfl) (by kernel_rfl) (fun _ _ _ h=>h) (Or.inr ⟨rfl,rfl⟩) (by assumption) ?_
       try simp only [Act.put,lyA,lyB,lyC]
       refine take_p (i:=8) 79 (v:=undef) rfl rfl (by kernel_rfl) (by kernel_rfl) (by kernel_rfl) (fun _ _ _ h=>h) (Or.inr ⟨rfl,rfl⟩) (by assumption) ?_
       try simp only [Act.put,lyA,lyB,lyC]
       refine take_p (i:=9) 80 (v:=undef) rfl rfl (by kernel_rfl) (by kernel_rfl) (by kernel_rfl) (fun _ _ _ h=>h) (Or.inr ⟨rfl,rfl⟩) (by assumption) ?_
       try simp only [Act.put,lyA,lyB,lyC]
       refine take_p (i:=10) 81 (v:=undef) rfl rfl (by kernel_rfl) (by kernel_rfl) (by kernel_rfl) (fun _ _ _ h=>h) (Or.inr ⟨rfl,rfl⟩) (by assumption) ?_
       try simp only [Act.put,lyA,lyB,lyC]
       refine take_p (i:=12) 83 (v:=undef) rfl rfl (by kernel_rfl) (by kernel_rfl) (by kernel_rfl) (fun _ _ _ h=>h) (Or.inr ⟨rfl,rfl⟩) (by assumption) ?_
       try simp only [Act.put,lyA,lyB,lyC]
       refine take_p (i:=13) 84 (v:=undef) rfl rfl (by kernel_rfl) (by kernel_rfl) (by kernel_rfl) (fun _ _ _ h=>h) (Or.inr ⟨rfl,rfl⟩) (by assumption) ?_
       try simp only [Act.put,lyA,lyB,lyC]
       refine take_p (i:=14) 85 (v:=undef) rfl rfl (by kernel_rfl) (by kernel_rfl) (by kernel_rfl) (fun _ _ _ h=>h) (Or.inr ⟨rfl,rfl⟩) (by assumption) ?_
       try simp only [Act.put,lyA,lyB,lyC]
       refine call_p (i:=11) (some 82) rfl rfl (by kernel_rfl) (fun K hK=>?_);rw [if_neg (by exact Bool.false_ne_true)];refine hK.out _ _ (by assumption) (fun hHeld=>?_);clear hK K
       try simp only [Act.put,lyA,lyB,lyC]
       refine call_p (i:=15) (some 86) rfl rfl (by kernel_rfl) (fun K hK=>?_);rw [if_neg (by exact Bool.false_ne_true)];refine hK.out _ _ (by assumption) (fun hHeld=>?_);clear hK K
       try simp only [Act.put,lyA,lyB,lyC]
       refine take_p (i:=16) 87 (v:=undef) rfl rfl (by kernel_rfl) (by kernel_rfl) (by kernel_rfl) (fun _ _ _ h=>h) (Or.inr ⟨rfl,rfl⟩) (by assumption) ?_
       try simp only [Act.put,lyA,lyB,lyC]
       refine take_a 17 88 ?_;refine wpAnyH_done (by kernel_rfl) ?_ _;refine NoPanic.normal ?_;have HXF:=ZZ (ac w7);clear gh1 gh2;go_wp2_with fail
       go_roundg (gk - 1)
       case measure=>have:=HZ9.out;omega
       case rel=>exact⟨j+1,ZZ (by have:=HJ.out;have:=HZ9.out;omega),rfl,ZZ (by rw [mirK_succ,HPAR.out];exact HP7.out.mono HXF.out),ZZ (ak E7.out HXF.out)⟩
     ·have gh1:(r == 0)=false:=beq_eq_false_iff_ne.2 hr0
      go_upto_region 15 with (fail)
      refine wp_region_noPanic ?_;refine wp_region_held_drew (S:=fun W=>Ext w4 W) (by kernel_rfl) (ak E7.out (ac _)) (fun hHeld=>?_);refine take_a 0 71 ?_;refine take_a 1 72 ?_;refine take_a 2 73 ?_;refine take_p (i:=3) 74 (v:=undef) rfl rfl (by kernel_rfl) (by kernel_rfl) (by kernel_rfl) (fun _ _ _ h=>h) (Or.inr ⟨rfl,rfl⟩) (by assumption) ?_
      try simp only [Act.put,lyA,lyB,lyC]
      refine take_p (i:=4) 75 (v:=undef) rfl rfl (by kernel_rfl) (by kernel_rfl) (by kernel_rfl) (fun _ _ _ h=>h) (Or.inr ⟨rfl,rfl⟩) (by assumption) ?_
      try simp only [Act.put,lyA,lyB,lyC]
      refine take_a 5 76 ?_;refine take_a 6 77 ?_;refine take_p (i:=7) 78 (v:=undef) rfl rfl (by kernel_rfl) (by kernel_rfl) (by kernel_rfl) (fun _ _ _ h=>h) (Or.inr ⟨rfl,rfl⟩) (by assumption) ?_
      try simp only [Act.put,lyA,lyB,lyC]
      refine take_p (i:=8) 79 (v:=undef) rfl rfl (by kernel_rfl) (by kernel_rfl) (by kernel_rfl) (fun _ _ _ h=>h) (Or.inr ⟨rfl,rfl⟩) (by assumption) ?_
      try simp only [Act.put,lyA,lyB,lyC]
      refine take_p (i:=9) 80 (v:=undef) rfl rfl (by kernel_rfl) (by kernel_rfl) (by kernel_rfl) (fun _ _ _ h=>h) (Or.inr ⟨rfl,rfl⟩) (by assumption) ?_
      try simp only [Act.put,lyA,lyB,lyC]
      refine take_p (i:=10) 81 (v:=undef) rfl rfl (by kernel_rfl) (by kernel_rfl) (by kernel_rfl) (fun _ _ _ h=>h) (Or.inr ⟨rfl,rfl⟩) (by assumption) ?_
      try simp only [Act.put,lyA,lyB,lyC]
      refine take_p (i:=12) 83 (v:=undef) rfl rfl (by kernel_rfl) (by kernel_rfl) (by kernel_rfl) (fun _ _ _ h=>h) (Or.inr ⟨rfl,rfl⟩) (by assumption) ?_
      try simp only [Act.put,lyA,lyB,lyC]
      refine take_p (i:=13) 84 (v:=undef) rfl rfl (by kernel_rfl) (by kernel_rfl) (by kernel_rfl) (fun _ _ _ h=>h) (Or.inr ⟨rfl,rfl⟩) (by assumption) ?_
      try simp only [Act.put,lyA,lyB,lyC]
      refine take_p (i:=14) 85 (v:=undef) rfl rfl (by kernel_rfl) (by kernel_rfl) (by kernel_rfl) (fun _ _ _ h=>h) (Or.inr ⟨rfl,rfl⟩) (by assumption) ?_
      try simp only [Act.put,lyA,lyB,lyC]
      refine call_p (i:=11) (some 82) rfl rfl (by kernel_rfl) (fun K hK=>?_);rw [if_neg (by exact Bool.false_ne_true)];refine hK.out _ _ (by assumption) (fun hHeld=>?_);clear hK K
      try simp only [Act.put,lyA,lyB,lyC]
      refine call_p (i:=15) (some 86) rfl rfl (by kernel_rfl) (fun K hK=>?_);rw [if_neg (by exact Bool.false_ne_true)];refine hK.out _ _ (by assumption) (fun hHeld=>?_);clear hK K
      try simp only [Act.put,lyA,lyB,lyC]
      refine take_p (i:=16) 87 (v:=undef) rfl rfl (by kernel_rfl) (by kernel_rfl) (by kernel_rfl) (fun _ _ _ h=>h) (Or.inr ⟨rfl,rfl⟩) (by assumption) ?_
      try simp only [Act.put,lyA,lyB,lyC]
      refine take_a 17 88 ?_;refine wpAnyH_done (by kernel_rfl) ?_ _;refine NoPanic.normal ?_;have HXF:=ZZ (ac w7);clear gh1;go_wp2_with fail
      go_roundg (gk - 1)
      case measure=>have:=HZ9.out;omega
      case rel=>exact⟨j+1,ZZ (by have:=HJ.out;have:=HZ9.out;omega),rfl,ZZ (by rw [mirK_succ,HPAR.out];exact HP7.out.mono HXF.out),ZZ (ak E7.out HXF.out)⟩
end Go.Proofs.YtaaoleakkaloeaaGreatDoor
