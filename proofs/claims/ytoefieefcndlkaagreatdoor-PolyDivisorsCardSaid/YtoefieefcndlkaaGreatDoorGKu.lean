/- The walk of PolyDivisors. Printed by gen_ku.py. -/
import Derived.Test.YtoefieefcndlkaaGreatDoorGKt
import Derived.Test.YtoefieefcndlkaaGreatDoorGYz
import Derived.Deep.DeepCutAuto
set_option linter.unusedVariables false
set_option maxRecDepth 100000
set_option maxHeartbeats 64000000
namespace Go.Proofs.YtoefieefcndlkaaGreatDoor
open Go Go.RowKit
set_option linter.unusedSimpArgs false
theorem list_ne (v:Value) (ls:List (List UInt8)) (w:World) (h:Stl w v ls) (hn:ls.length≤14):Calls Tryz.prog 7 #[v] w fun e w'=>∃va vx,e=.returned (.tuple #[va,vx])∧Px w' va (listF ls) 14 4001∧Ext w w':=by
 refine(list_n v ls (by omega) w h).mono ?_;rintro e w' ⟨va,vx,rfl,hp,hr,k⟩;refine⟨va,vx,rfl,⟨hp,by unfold listF;rw [List.length_map];exact hn,fun x hx=>?_⟩,k⟩;unfold listF at hx;obtain⟨s,-,rfl⟩:=List.mem_map.1 hx;exact av s
theorem PlL.at_ {w:World} {A:Option Addr} {n c i:Nat} {ls:List (List Rat)} {l:List Rat} (h:PlL w (.slice A n c) ls) (hl:ls[i]?=some l):∃b o u,A=some ⟨b,o,none⟩∧w.cell? ⟨b,o+i,none⟩=some u∧Pl w u l:=by
 obtain⟨A',c',e,-,h3⟩:=h
 injection e with e1 e2 e3
 subst e1
 rcases h3 with ⟨-,h4⟩|⟨b,o,e4,h4⟩
 ·rw [h4] at hl;cases hl
 ·obtain⟨u,h5,h6⟩:=h4 i l hl
  exact⟨b,o,u,e4,h5,h6⟩
theorem pl_at {w:World} {A:Option Addr} {n c i:Nat} {l:List Rat} {q:Rat} (h:Pl w (.slice A n c) l) (hq:l[i]?=some q):∃s A1 k1 ca1 B1 l1 cb1 b o,A=some ⟨b,o,none⟩∧w.cell? ⟨b,o+i*3,none⟩=some (.bool s)∧w.cell? ⟨b,o+i*3+1,none⟩=some (.slice A1 k1 ca1)∧w.cell? ⟨b,o+i*3+2,none⟩=some (.slice B1 l1 cb1)∧Nm w (.agg #[.bool s,.slice A1 k1 ca1,.slice B1 l1 cb1]) q:=by
 obtain⟨A',c',e,-,h3⟩:=h
 injection e with e1 e2 e3
 subst e1
 rcases h3 with ⟨-,h4⟩|⟨b,o,e4,h4⟩
 ·rw [h4] at hq;cases hq
 ·obtain⟨s,A1,k1,ca1,B1,l1,cb1,d0,d1,d2,hn⟩:=h4 i q hq
  exact⟨s,A1,k1,ca1,B1,l1,cb1,b,o,e4,d0,d1,d2,hn⟩
theorem pl_form {w:World} {v:Value} {l:List Rat} (h:Pl w v l):∃A c,v=.slice A l.length c:=by
 obtain⟨A,c,e,-⟩:=h;exact⟨A,c,e⟩
theorem divisors_c (v0 v1 v2:Value) (l0 l1 l2:List (List UInt8)) (w:World) (h0:Stl w v0 l0) (h1:Stl w v1 l1) (h2:Stl w v2 l2) (ht:Tens w):Calls Tryz.prog 4 #[v0,v1,v2] w fun e w'=>e=.returned (.bool true)∧Ext w w':=by
 obtain⟨Q0,c0,rfl,-⟩:=h0.form;obtain⟨Q1,c1,rfl,-⟩:=h1.form;obtain⟨Q2,c2,rfl,-⟩:=h2.form;obtain⟨n0,hn0⟩:∃n,l0.length=n:=⟨_,rfl⟩;obtain⟨n1,hn1⟩:∃n,l1.length=n:=⟨_,rfl⟩;obtain⟨n2,hn2⟩:∃n,l2.length=n:=⟨_,rfl⟩;rw [hn0] at h0 ⊢;rw [hn1] at h1 ⊢;rw [hn2] at h2 ⊢;have HS0:=ZZ h0;have HS1:=ZZ h1;have HS2:=ZZ h2;have HT:=ZZ ht;have HN0:=ZZ hn0;have HN1:=ZZ hn1;have HN2:=ZZ hn2;clear h0 h1 h2 ht hn0 hn1 hn2;have EA:=ZZ (ab w (.cells #[.slice Q0 n0 c0,.slice Q1 n1 c1,.slice Q2 n2 c2] 22))
 have GL:=ZZ (show Gl (w.alloc (.cells #[.slice Q0 n0 c0,.slice Q1 n1 c1,.slice Q2 n2 c2] 22)) (.slice (some ⟨w.heap.size,0,none⟩) 3 3) [(.slice Q0 n0 c0,l0),(.slice Q1 n1 c1,l1),(.slice Q2 n2 c2,l2)] from by
  have hr:=heap_alloc_new w (.cells #[.slice Q0 n0 c0,.slice Q1 n1 c1,.slice Q2 n2 c2] 22);refine⟨_,3,rfl,fun i y hy=>?_⟩
  match i,hy with
  | 0,hy=>obtain rfl:=Option.some.inj hy;exact⟨by rw [cell_of_row _ _ _ _ _ _ hr];rfl,HS0.out.mono EA.out⟩
  | 1,hy=>obtain rfl:=Option.some.inj hy;exact⟨by rw [cell_of_row _ _ _ _ _ _ hr];rfl,HS1.out.mono EA.out⟩
  | 2,hy=>obtain rfl:=Option.some.inj hy;exact⟨by rw [cell_of_row _ _ _ _ _ _ hr];rfl,HS2.out.mono EA.out⟩)
 obtain⟨M,hM⟩:∃M:Nat,M=10217226011:=⟨_,rfl⟩;have HMX:=ZZ (show 0<M∧M≤137438953472∧M≤1099511627776 from by omega);have HMG:=ZZ (show 10217226011≤M from by omega);clear hM;have hun:undef=.tuple #[]:=rfl
 go_enter Tryz.func4,Tryz.ntmps4
 go_wp2_with fail;generalize World.alloc w (.cells #[.slice Q0 n0 c0,.slice Q1 n1 c1,.slice Q2 n2 c2] _)=W0 at *
 generalize hwg:w.heap.size=g0 at *;refine(great_p _ [(.slice Q0 n0 c0,l0),(.slice Q1 n1 c1,l1),(.slice Q2 n2 c2,l2)] (by simp) _ GL.out).mono ?_;rintro e w1 ⟨rfl,kk1⟩;have K1:=ZZ (ak EA.out kk1);obtain⟨d,hd⟩:∃d,greatF [(.slice Q0 n0 c0,l0),(.slice Q1 n1 c1,l1),(.slice Q2 n2 c2,l2)]=d:=⟨_,rfl⟩;rw [hd];clear hd kk1 hwg GL EA
 cases d with
 | true=>
  go_wp2_with fail;refine(awake_p _ (HT.out.mono K1.out)).mono ?_
  rintro e wz ⟨rfl,kz⟩;have KZ:=ZZ (ak K1.out kz);clear kz;go_wp2_with fail;go_ret;exact⟨rfl,KZ.out⟩
 | false=>
  rcases Nat.lt_or_ge 14 n0 with z0|z0
  ·have g0:decide ((14:Int)<(n0:Int))=true:=decide_eq_true (by omega)
   have g0':decide (14<n0)=true:=decide_eq_true z0;go_wp2_with fail;refine(awake_p _ (HT.out.mono K1.out)).mono ?_;rintro e wz ⟨rfl,kz⟩;have KZ:=ZZ (ak K1.out kz);clear kz;go_wp2_with fail;go_ret;exact⟨rfl,KZ.out⟩
  have g0:decide ((14:Int)<(n0:Int))=false:=decide_eq_false (by omega);have g0':decide (14<n0)=false:=decide_eq_false (by omega)
  rcases Nat.lt_or_ge 14 n1 with z1|z1
  ·have g1:decide ((14:Int)<(n1:Int))=true:=decide_eq_true (by omega)
   have g1':decide (14<n1)=true:=decide_eq_true z1;go_wp2_with fail;refine(awake_p _ (HT.out.mono K1.out)).mono ?_;rintro e wz ⟨rfl,kz⟩;have KZ:=ZZ (ak K1.out kz);clear kz;go_wp2_with fail;go_ret;exact⟨rfl,KZ.out⟩
  have g1:decide ((14:Int)<(n1:Int))=false:=decide_eq_false (by omega);have g1':decide (14<n1)=false:=decide_eq_false (by omega)
  rcases Nat.lt_or_ge 14 n2 with z2|z2
  ·have g2:decide ((14:Int)<(n2:Int))=true:=decide_eq_true (by omega)
   have g2':decide (14<n2)=true:=decide_eq_true z2;go_wp2_with fail;refine(awake_p _ (HT.out.mono K1.out)).mono ?_;rintro e wz ⟨rfl,kz⟩;have KZ:=ZZ (ak K1.out kz);clear kz;go_wp2_with fail;go_ret;exact⟨rfl,KZ.out⟩
  have g2:decide ((14:Int)<(n2:Int))=false:=decide_eq_false (by omega);have g2':decide (14<n2)=false:=decide_eq_false (by omega);have HLL0:=ZZ (show l0.length≤14 from by have:=HN0.out;omega);have HLL1:=ZZ (show l1.length≤14 from by have:=HN1.out;omega);have HLL2:=ZZ (show l2.length≤14 from by have:=HN2.out;omega);obtain⟨x,hx⟩:∃a,listF l0=a:=⟨_,rfl⟩;obtain⟨y,hy⟩:∃a,listF l1=a:=⟨_,rfl⟩;obtain⟨c,hc⟩:∃a,listF l2=a:=⟨_,rfl⟩;have HLA:=ZZ hx;have HLB:=ZZ hy;have HLCC0:=ZZ hc;clear hx hy hc z0 z1 z2;go_wp2_with fail;refine(list_ne _ l2 _ (HS2.out.mono K1.out) HLL2.out).mono ?_;rintro e w2 ⟨vc,xc,rfl,ha,kk2⟩;rw [HLCC0.out] at ha;have PC:=ZZ ha;have K2:=ZZ (ak K1.out kk2);clear ha kk2 K1;go_wp2_with fail;refine(list_ne _ l0 _ (HS0.out.mono K2.out) HLL0.out).mono ?_;rintro e w3 ⟨vx,xx,rfl,ha,kk3⟩;rw [HLA.out] at ha
  replace PC:=ZZ (PC.out.mono kk3)
  have PX:=ZZ ha;have K3:=ZZ (ak K2.out kk3);clear ha kk3 K2;go_wp2_with fail;refine(list_ne _ l1 _ (HS1.out.mono K3.out) HLL1.out).mono ?_;rintro e w4 ⟨vy,xy,rfl,ha,kk4⟩;rw [HLB.out] at ha
  replace PC:=ZZ (PC.out.mono kk4)
  replace PX:=ZZ (PX.out.mono kk4)
  have PY:=ZZ ha;have EW:=ZZ (ak K3.out kk4);have EB:=ZZ (ae w4)
  replace HT:=ZZ (HT.out.mono EW.out)
  have HLX:=ZZ PX.out.2.1;have HLY:=ZZ PY.out.2.1;have HLC:=ZZ PC.out.2.1;clear ha kk4 K3 HLA HLB HLCC0 HS0 HS1 HS2 HLL0 HLL1 HLL2 HN0 HN1 HN2 g0 g0' g1 g1' g2 g2'
  ·
   go_wp2_with fail;refine(mul_p 4001 (by decide) _ _ x c (by have:=HLX.out;omega) (by have:=HLC.out;omega) (by have h1:x.length*(4001+4001+1)≤14*(4001+4001+1):=Nat.mul_le_mul_right _ HLX.out;omega) _ (PX.out.mono EB.out).1 (PC.out.mono EB.out).1 PX.out.2.2 PC.out.2.2).mono ?_
   rintro e w51 ⟨va,rfl,hq,kq⟩
   replace EB:=ZZ (ak EB.out kq)
   have Ha:=ZZ hq.pl;clear kq hq;go_wp2_with fail;refine(mul_p 4001 (by decide) _ _ y c (by have:=HLY.out;omega) (by have:=HLC.out;omega) (by have h1:y.length*(4001+4001+1)≤14*(4001+4001+1):=Nat.mul_le_mul_right _ HLY.out;omega) _ (PY.out.mono EB.out).1 (PC.out.mono EB.out).1 PY.out.2.2 PC.out.2.2).mono ?_;rintro e w52 ⟨vb,rfl,hq,kq⟩
   replace EB:=ZZ (ak EB.out kq)
   replace Ha:=ZZ (Ha.out.mono kq)
   have Hb:=ZZ hq.pl;clear kq hq;obtain⟨ta,la,fa,dva⟩:=prod_facts HLX.out HLC.out PX.out.2.2 PC.out.2.2;obtain⟨tb,lb,fb,dvb⟩:=prod_facts HLY.out HLC.out PY.out.2.2 PC.out.2.2;have PA:=ZZ Ha.out;have PB:=ZZ Hb.out;obtain⟨a,ha⟩:∃a,mulF x c=a:=⟨_,rfl⟩;obtain⟨b,hb⟩:∃b,mulF y c=b:=⟨_,rfl⟩;rw [ha] at ta la fa dva PA;rw [hb] at tb lb fb dvb PB;have TA:=ZZ ta;have LA:=ZZ la;have FA:=ZZ fa;have DVA:=ZZ dva;have TB:=ZZ tb;have LB:=ZZ lb;have FB:=ZZ fb;have DVB:=ZZ dvb;clear ta la fa dva tb lb fb dvb ha hb Ha Hb;obtain⟨o1,o2,o3,o4,o5,o6⟩:=gcd_facts HMG.out TA.out TB.out LA.out LB.out FA.out FB.out;obtain⟨g,hg⟩:∃g,commonF a b=g:=⟨_,rfl⟩;rw [hg] at o2 o3 o4 o5 o6;have O1:=ZZ o1;have O2:=ZZ o2;have O3:=ZZ o3;have O4:=ZZ o4;have O5:=ZZ o5;have O6:=ZZ o6;have HGG:=ZZ hg;clear o1 o2 o3 o4 o5 o6 hg;have e00:((0:Int) != 0)=false:=rfl;have e01:((0:Int) == 0)=true:=rfl;go_wp2_with fail;refine(gcd_p M HMX.out.1 (by have:=HMX.out;omega) _ _ a b (by have:=LA.out;omega) (by have:=LB.out;omega) _ PA.out PB.out (fun _=>O1.out) (g,0) O2.out).mono ?_;rintro e w53 ⟨vg,rfl,hq,kq⟩
   replace EB:=ZZ (ak EB.out kq)
   replace PA:=ZZ (PA.out.mono kq)
   replace PB:=ZZ (PB.out.mono kq)
   have PG:=ZZ hq;clear kq hq
   replace PG:=ZZ (show Pl _ vg g from PG.out)
   have z0:(g,(0:Int)).2=0:=rfl;obtain⟨lg,hlg⟩:∃l,dgF g=l:=⟨_,rfl⟩;go_wp2_with fail;refine(deg_q _ g (by have:=O3.out;omega) _ PG.out).mono ?_;rintro e w54 ⟨rfl,kq⟩
   replace EB:=ZZ (ak EB.out kq)
   replace PA:=ZZ (PA.out.mono kq)
   replace PB:=ZZ (PB.out.mono kq)
   replace PG:=ZZ (PG.out.mono kq)
   clear kq;rw [show ((trimF g).length:Int) - 1=(lg:Int) - 1 from by rw [←hlg];rfl];have HLG:=ZZ hlg;clear hlg
   rcases Nat.eq_zero_or_pos lg with hz|hz
   ·
    subst hz;have q1:decide (((0:Nat):Int) - 1<0)=true:=rfl;have q1':((0:Nat):Int) - 1 = -1:=rfl;have q1b:decide ((-1:Int)<0)=true:=rfl;obtain⟨na,nb⟩:=O5.out HLG.out;subst na nb;rw [q1'];go_wp2_with fail;refine(deg_q _ [] (by decide) _ PA.out).mono ?_;rintro e w55 ⟨rfl,kq⟩
    replace EB:=ZZ (ak EB.out kq)
    replace PA:=ZZ (PA.out.mono kq)
    replace PB:=ZZ (PB.out.mono kq)
    replace PG:=ZZ (PG.out.mono kq)
    clear kq;rw [show ((trimF []).length:Int) - 1 = -1 from rfl];go_wp2_with fail;refine(deg_q _ [] (by decide) _ PB.out).mono ?_;rintro e w56 ⟨rfl,kq⟩
    replace EB:=ZZ (ak EB.out kq)
    replace PA:=ZZ (PA.out.mono kq)
    replace PB:=ZZ (PB.out.mono kq)
    replace PG:=ZZ (PG.out.mono kq)
    clear kq;rw [show ((trimF []).length:Int) - 1 = -1 from rfl];go_wp2_with fail;refine(awake_p _ (HT.out.mono EB.out)).mono ?_;rintro e wz ⟨rfl,kz⟩;have KZ:=ZZ (ak EB.out kz);clear kz;go_wp2_with fail;go_ret;exact⟨rfl,ak EW.out KZ.out⟩
   ·
    have q1:decide ((lg:Int) - 1<0)=false:=decide_eq_false (by omega);have q1':decide ((lg:Int)<1)=false:=decide_eq_false (by omega);have HG0:=ZZ (show 0<dgF g from by rw [HLG.out];exact hz);obtain⟨fg,o7,o8,o9,o10,o11,o12,o13,o14,o15,o16⟩:=O6.out HG0.out;have GNE:=ZZ (trim_ne HG0.out);have FG:=ZZ fg;obtain⟨m,hm⟩:∃m,(divF a g).1=m:=⟨_,rfl⟩;obtain⟨n,hn⟩:∃m,(divF b g).1=m:=⟨_,rfl⟩;rw [hm] at o9 o11 o13 o14 o15 o16;rw [hn] at o10 o12 o14 o15;have O7:=ZZ o7;have O8:=ZZ o8;have O9:=ZZ o9;have O10:=ZZ o10;have O11:=ZZ o11;have O12:=ZZ o12;have O13:=ZZ o13;have O14:=ZZ o14;have O15:=ZZ o15;have O16:=ZZ o16;clear fg o7 o8 o9 o10 o11 o12 o13 o14 o15 o16 hm hn hz;go_wp2_with fail;refine(div_p M HMX.out.1 (by have:=HMX.out;omega) _ _ a g (by have:=LA.out;omega) (by have:=O3.out;omega) _ PA.out PG.out (fun _ _=>O7.out) (m,[],0) O9.out).mono ?_;rintro e w55 ⟨vm,vi,rfl,hq1,hq2,kq⟩
    replace EB:=ZZ (ak EB.out kq)
    replace PA:=ZZ (PA.out.mono kq)
    replace PB:=ZZ (PB.out.mono kq)
    replace PG:=ZZ (PG.out.mono kq)
    have PM:=ZZ hq1;have PI:=ZZ hq2;clear kq hq1 hq2;obtain⟨Ai,ci,ei⟩:=pl_form PI.out
    replace ei:vi=.slice Ai 0 ci:=ei
    subst ei
    replace PM:=ZZ (show Pl _ vm m from PM.out)
    clear PI;go_wp2_with fail;refine(div_p M HMX.out.1 (by have:=HMX.out;omega) _ _ b g (by have:=LB.out;omega) (by have:=O3.out;omega) _ PB.out PG.out (fun _ _=>O8.out) (n,[],0) O10.out).mono ?_;rintro e w56 ⟨vn,vk,rfl,hq1,hq2,kq⟩
    replace EB:=ZZ (ak EB.out kq)
    replace PA:=ZZ (PA.out.mono kq)
    replace PB:=ZZ (PB.out.mono kq)
    replace PG:=ZZ (PG.out.mono kq)
    replace PM:=ZZ (PM.out.mono kq)
    have PN:=ZZ hq1;have PK:=ZZ hq2;clear kq hq1 hq2;obtain⟨Ak,ck,ek⟩:=pl_form PK.out
    replace ek:vk=.slice Ak 0 ck:=ek
    subst ek
    replace PN:=ZZ (show Pl _ vn n from PN.out)
    clear PK;go_wp2_with fail;refine(free_p M HMX.out.1 (by have:=HMX.out;omega) _ _ m n (by have:=O11.out;omega) (by have:=O12.out;omega) _ PM.out PN.out O14.out O15.out).mono ?_;rintro e w57 ⟨rfl,kq⟩
    replace EB:=ZZ (ak EB.out kq)
    replace PA:=ZZ (PA.out.mono kq)
    replace PB:=ZZ (PB.out.mono kq)
    replace PG:=ZZ (PG.out.mono kq)
    replace PM:=ZZ (PM.out.mono kq)
    replace PN:=ZZ (PN.out.mono kq)
    clear kq;obtain⟨MM,hmm⟩:∃m:Nat,m=6178719:=⟨_,rfl⟩;have HMM:=ZZ hmm;have B13:=ZZ (show ∀q ∈ m,Bq MM q from by rw [HMM.out];exact O13.out);clear hmm;go_wp2_with fail;refine(mul_p MM (by have:=HMM.out;omega) _ _ m g (by have:=O11.out;omega) (by have:=O3.out;omega) (by have h1:m.length*(MM+MM+1)≤27*(MM+MM+1):=Nat.mul_le_mul_right _ O11.out;have h2:=HMM.out;omega) _ PM.out PG.out B13.out (fun q hq=>(FG.out.bq q hq).mono (by have:=HMM.out;omega))).mono ?_;rintro e w58 ⟨vq,rfl,hq,kq⟩
    replace EB:=ZZ (ak EB.out kq)
    replace PA:=ZZ (PA.out.mono kq)
    replace PB:=ZZ (PB.out.mono kq)
    replace PG:=ZZ (PG.out.mono kq)
    replace PM:=ZZ (PM.out.mono kq)
    replace PN:=ZZ (PN.out.mono kq)
    have PQ:=ZZ hq;clear kq hq
    replace PQ:=ZZ (show Pl _ vq a from by have h:=PQ.out.pl;rwa [O16.out] at h)
    go_wp2_with fail;refine(equal_p 112035 (by decide) _ _ a (by have:=LA.out;omega) _ PQ.out PA.out FA.out.bq).mono ?_
    rintro e w59 ⟨rfl,kq⟩
    replace EB:=ZZ (ak EB.out kq)
    replace PA:=ZZ (PA.out.mono kq)
    replace PB:=ZZ (PB.out.mono kq)
    replace PG:=ZZ (PG.out.mono kq)
    replace PM:=ZZ (PM.out.mono kq)
    replace PN:=ZZ (PN.out.mono kq)
    replace PQ:=ZZ (PQ.out.mono kq)
    clear kq;clear PQ PM PN O7 O8 O9 O10 O11 O12 O13 O14 O15 O16 O1 O2 O4 O5 O6 q1 q1' HLG;obtain⟨dc,hdc⟩:∃d:Int,((trimF c).length:Int) - 1=d:=⟨_,rfl⟩;have HDC:=ZZ hdc;obtain⟨bc,hbc⟩:∃b,decide ((0:Int)≤dc)=b:=⟨_,rfl⟩;have HBC:=ZZ hbc;go_wp2_with fail;refine(deg_q _ c (by have:=HLC.out;omega) _ (PC.out.mono EB.out).1).mono ?_;rintro e w60 ⟨rfl,kq⟩
    replace EB:=ZZ (ak EB.out kq)
    replace PA:=ZZ (PA.out.mono kq)
    replace PB:=ZZ (PB.out.mono kq)
    replace PG:=ZZ (PG.out.mono kq)
    clear kq;rw [HDC.out];clear hdc
    go_upto_if 139 with (fail)
    clear hbc
    go_cut [] (fun wx=>Hid (Ext w60 wx))
    case first=>
     have EBS:=EB
     replace EB:=ZZ (ae w60)
     cases bc with
     | false=>
      go_wp2_with fail;go_meet
      exact EB
     | true=>
      have CNE:=ZZ (show trimF c≠[] from fun e=>by have h1:=of_decide_eq_true HBC.out;have h2:=HDC.out;rw [e] at h2;simp at h2;omega);obtain⟨r1,r2⟩:=rest_facts HMG.out HLC.out PC.out.2.2 DVA.out DVB.out (by rw [HGG.out];exact O3.out) (by rw [HGG.out];exact FG.out) CNE.out;rw [HGG.out] at r1 r2;have R1:=ZZ r1;have R2:=ZZ r2;clear r1 r2;go_wp2_with fail;refine(div_p M HMX.out.1 (by have:=HMX.out;omega) _ _ g c (by have:=O3.out;omega) (by have:=HLC.out;omega) _ PG.out (PC.out.mono (ak EBS.out EB.out)).1 (fun _ _=>R1.out) ((divF g c).1,[],0) R2.out).mono ?_;rintro e w61 ⟨vm,vi,rfl,hq1,hq2,kq⟩
      replace EB:=ZZ (ak EB.out kq)
      have PZ:=ZZ hq1;have PI:=ZZ hq2;clear kq hq1 hq2;obtain⟨Ai,ci,ei⟩:=pl_form PI.out
      replace ei:vi=.slice Ai 0 ci:=ei
      subst ei;go_wp2_with fail;go_meet;exact EB
    case rest=>
     have HCU:=hcut
     replace PA:=ZZ (PA.out.mono HCU.out)
     replace EB:=ZZ (ak EB.out HCU.out)
     clear HCU hcut PB PG;have HTA:=ZZ (dg_len a);obtain⟨na,hna⟩:∃n,a.length=n:=⟨_,rfl⟩;have HNA:=ZZ hna;obtain⟨Aa,ca,ea⟩:=pl_form PA.out;rw [hna] at ea;subst ea;clear hna
     rcases Nat.eq_zero_or_pos na with hz|hz
     ·subst hz
      have AN:=ZZ (List.length_eq_zero_iff.1 HNA.out);have TN0:=ZZ (show trimF a=[] from by rw [AN.out];rfl);go_wp2_with fail;refine(parts_p M HMX.out.1 (by have:=HMX.out;omega) _ a (by have:=LA.out;omega) _ PA.out (fun h=>absurd h (by rw [(parts_none LA.out TN0.out).2];decide)) ([],8) (parts_none LA.out TN0.out).1).mono ?_;rintro e w71 ⟨vl,rfl,hq,kq⟩
      replace EB:=ZZ (ak EB.out kq)
      replace PA:=ZZ (PA.out.mono kq)
      have PL:=ZZ hq;clear kq hq;go_wp2_with fail;refine(deg_q _ a (by have:=LA.out;omega) _ PA.out).mono ?_;rintro e w72 ⟨rfl,kq⟩
      replace EB:=ZZ (ak EB.out kq)
      replace PA:=ZZ (PA.out.mono kq)
      replace PL:=ZZ (PL.out.mono kq)
      clear kq;rw [show ((trimF a).length:Int) - 1 = -1 from by rw [TN0.out];rfl];have q8:((8:Int) == 8)=true:=rfl;have q1b:decide ((-1:Int)<0)=true:=rfl;go_wp2_with fail;refine(awake_p _ (HT.out.mono EB.out)).mono ?_;rintro e wz ⟨rfl,kz⟩;have KZ:=ZZ (ak EB.out kz);clear kz;go_wp2_with fail;go_ret;exact⟨rfl,ak EW.out KZ.out⟩
     have HA0:=ZZ (show 0<dgF a from by unfold dgF;rw [TA.out,HNA.out];exact hz);obtain⟨nk,rfl⟩:∃k,na=k+1:=⟨na - 1,by omega⟩;obtain⟨y1,y2,-⟩:=parts_some HMG.out TA.out LA.out FA.out HA0.out;have Y1:=ZZ y1;have Y2:=ZZ y2;obtain⟨x1,x2,x3,x4⟩:=parts_facts TA.out HA0.out (Nat.le_trans HTA.out LA.out) FA.out;obtain⟨ls,hls⟩:∃l,partsF a=l:=⟨_,rfl⟩;rw [hls] at x1 x2 x3 x4 y2;obtain⟨t,ht⟩:∃t,topF a=t:=⟨_,rfl⟩;rw [ht] at x2 x3
     replace Y2:=ZZ y2
     have X1:=ZZ x1;have X2:=ZZ x2;have X3:=ZZ x3;have X4:=ZZ x4;have HTT:=ZZ ht;clear x1 x2 x3 x4 y1 y2 hls ht hz;go_wp2_with fail;refine(parts_p M HMX.out.1 (by have:=HMX.out;omega) _ a (by have:=LA.out;omega) _ PA.out (fun _=>Y1.out) (ls,0) Y2.out).mono ?_;rintro e w71 ⟨vl,rfl,hq,kq⟩
     replace EB:=ZZ (ak EB.out kq)
     replace PA:=ZZ (PA.out.mono kq)
     have PL:=ZZ hq;clear kq hq;go_wp2_with fail;refine(deg_q _ a (by have:=LA.out;omega) _ PA.out).mono ?_;rintro e w72 ⟨rfl,kq⟩
     replace EB:=ZZ (ak EB.out kq)
     replace PA:=ZZ (PA.out.mono kq)
     replace PL:=ZZ (PL.out.mono kq)
     clear kq;rw [show ((trimF a).length:Int) - 1=(nk:Int) from by rw [TA.out,HNA.out];omega];have q1:decide ((nk:Int)<0)=false:=decide_eq_false (by omega);have q2:(((nk+1:Nat):Int) == 0)=false:=by rw [beq_eq_false_iff_ne];omega
     have q2':((nk:Int)+1 == 0)=false:=by rw [beq_eq_false_iff_ne];omega
     have HNK:=ZZ (show nk≤100 from by have h1:=HNA.out;have h2:=LA.out;omega)
     have q3:IntKind.i64.wrap ((nk:Int)+1 - 1)=(nk:Int):=by
      have:=HNK.out
      rw [show (nk:Int)+1 - 1=(nk:Int) by omega];exact IntWalk.i64_in _ (by omega)
     have q3':IntKind.i64.wrap (nk:Int)=(nk:Int):=by
      have:=HNK.out
      exact IntWalk.i64_in _ (by omega)
     have q4:(nk:Int)<(nk:Int)+1:=by omega
     have q5:(0:Int)≤(nk:Int):=by omega
     obtain⟨s1,A1,k1,ca1,B1,l1,cb1,bt,ot,rfl,d0,d1,d2,ntop⟩:=pl_at PA.out (top_get HNA.out);rw [HTT.out] at ntop;have NT:=ZZ ntop;obtain⟨Al,cl,el⟩:∃A c,vl=.slice A ls.length c:=by obtain⟨A,c,e,-⟩:=PL.out;exact⟨A,c,e⟩
     obtain⟨nl,hnl⟩:∃n,ls.length=n:=⟨_,rfl⟩;rw [hnl] at el;subst el;have HNL:=ZZ hnl;have PT:=ZZ (pln_one ntop);clear ntop hnl;go_wp2_with fail;have EX:=ZZ (ab w72 (.cells #[.bool s1,.slice A1 k1 ca1,.slice B1 l1 cb1] 52))
     replace PA:=ZZ (PA.out.mono EX.out)
     replace PL:=ZZ (PL.out.mono EX.out)
     replace EB:=ZZ (ak EB.out EX.out)
     generalize World.alloc w72 (.cells #[.bool s1,.slice A1 k1 ca1,.slice B1 l1 cb1] _)=W7 at *;generalize w72.heap.size=g7 at *;clear EX d0 d1 d2 q1 q2 q2' q3 q3' q4 q5
     go_loopg [27,26] nl (fun k i u wr=>∃j,Hid (j+k=nl)∧i=.int .i64 (j:Int)∧Hid (Pl wr u (allI t ls j))∧Hid (Ext W7 wr))
     case atStart=>exact⟨0,ZZ (Nat.zero_add _),rfl,PT,ZZ (ae _)⟩
     case round=>
      obtain⟨j,HJ,rfl,HO,HE⟩:=hrel;rename World=>WR
      rcases Nat.eq_zero_or_pos gk with hz|hz
      ·subst hz
       obtain rfl:j=nl:=HJ.out;have q1:decide ((j:Int)<(j:Int))=false:=decide_eq_false (Int.lt_irrefl _);have HOA:=ZZ (show Pl WR u26 a from by have h:=HO.out;rwa [←HNL.out,X3.out] at h)
       replace EB:=ZZ (ak EB.out HE.out)
       replace PA:=ZZ (PA.out.mono HE.out)
       go_wp2_with fail;refine(equal_p 112035 (by decide) _ _ a (by have:=LA.out;omega) _ HOA.out PA.out FA.out.bq).mono ?_
       rintro e y1 ⟨rfl,ky⟩
       replace EB:=ZZ (ak EB.out ky)
       clear ky;go_wp2_with fail;refine(awake_p _ (HT.out.mono EB.out)).mono ?_;rintro e wz ⟨rfl,kz⟩;have KZ:=ZZ (ak EB.out kz);clear kz;go_wp2_with fail;go_ret;exact⟨rfl,ak EW.out KZ.out⟩
      have hjn:j<nl:=by have:=HJ.out;omega
      have q1:decide ((j:Int)<(nl:Int))=true:=decide_eq_true (by omega);have q4:(j:Int)<(nl:Int):=by omega
      have q5:(0:Int)≤(j:Int):=by omega
      obtain⟨P,hP⟩:∃P,ls[j]?=some P:=⟨ls[j]'(by rw [HNL.out];exact hjn),List.getElem?_eq_getElem _⟩;have HPP:=ZZ hP;obtain⟨p1,p2,p3,p4,p5,p6,p7⟩:=X1.out j P hP;have P3:=ZZ p3;have P4:=ZZ p4;have P5:=ZZ p5;have P6:=ZZ p6;have P7:=ZZ p7;have P0:=ZZ p2;have P1:=ZZ p1;have HJ30:=ZZ (show j≤30 from by have h1:=X4.out;have h2:=HNL.out;omega)
      have q6:IntKind.i64.wrap ((j:Int)+1)=(((j+1:Nat)):Int):=by
       have:=HJ30.out
       rw [show (((j+1:Nat)):Int)=(j:Int)+1 by omega];exact IntWalk.i64_in _ (by omega)
      obtain⟨bl,ol,ul,rfl,hcl,hpl⟩:=(PL.out.mono HE.out).at_ hP;obtain⟨Au,cu,eu⟩:=pl_form hpl;obtain⟨nu,hnu⟩:∃n,P.length=n:=⟨_,rfl⟩;rw [hnu] at eu;subst eu;have HNU:=ZZ hnu;have PU:=ZZ hpl;have HNU0:=ZZ (show 0<nu from by rw [←hnu,←p1.len];exact p2);have A1_:=ZZ (X2.out j (by rw [HNL.out];omega));have HZ:=ZZ hz;have HC0:=ZZ (show ∀W,Ext WR W→W.cell? ⟨bl,ol+j,none⟩=some (.slice Au nu cu) from fun W k=>ao k hcl);clear p1 p2 p3 p4 p5 p6 p7 hP hpl hnu hz hjn;go_wp2_with fail;refine(power_p' 224691 (by decide) (by decide) _ P (j+1) (by have:=HJ30.out;omega) (by have:=P3.out;omega) _ PU.out P4.out.bq (fun k hk=>⟨(P6.out k hk).1.bq,by have:=(P6.out k hk).2;omega⟩)).mono ?_;rintro e y1 ⟨v1,rfl,h1,k1⟩;have H1:=ZZ h1;have K1:=ZZ k1;clear h1 k1 hcl;go_wp2_with fail;obtain⟨NN,hnn⟩:∃m:Nat,m=336726:=⟨_,rfl⟩;have HNN:=ZZ hnn;have BA_:=ZZ (show ∀q ∈ allI t ls j,Bq NN q from by rw [HNN.out];exact A1_.out.1.bq);clear hnn;refine(mul_p NN (by have:=HNN.out;omega) _ _ (allI t ls j) (pwrF P (j+1)) (by have:=A1_.out.2;omega) (by have:=(P6.out (j+1) (Nat.le_refl _)).2;omega) (by have h1:(allI t ls j).length*(NN+NN+1)≤27*(NN+NN+1):=Nat.mul_le_mul_right _ A1_.out.2;have h2:=HNN.out;omega) _ (HO.out.mono K1.out) H1.out BA_.out (fun q hq=>((P6.out (j+1) (Nat.le_refl _)).1.bq q hq).mono (by have:=HNN.out;omega))).mono ?_;rintro e Y2w ⟨v2,rfl,h2,k2⟩;have H2:=ZZ (show Pl Y2w v2 (allI t ls (j+1)) from by rw [allI_succ HPP.out];exact h2.pl);have K2:=ZZ (ak K1.out k2);clear h2 k2 H1 K1
      have HC:=ZZ (show ∀W,Ext Y2w W→W.cell? ⟨bl,ol+j,none⟩=some (.slice Au nu cu) from fun W k=>HC0.out W (ak K2.out k));have q7:((nu:Int) == 0)=false:=by rw [beq_eq_false_iff_ne];have:=HNU0.out;omega
      have PU2:=ZZ (PU.out.mono K2.out)
      go_upto_region 30 with (fail)
      refine wp_region_noPanic ?_;refine wp_region_held_drew (S:=fun W=>W.cell? ⟨bl,ol+j,none⟩=some (.slice Au nu cu)) (by kernel_rfl) (HC.out _ (ac _)) (fun hHeld=>?_);refine take_a 0 192 ?_;refine take_a 1 193 ?_;refine take_a 2 194 ?_;refine take_a 3 195 ?_;refine take_a 4 196 ?_;refine take_a 5 197 ?_;refine take_a 6 198 ?_;refine take_a 7 199 ?_;refine take_a 8 200 ?_;refine take_a 9 201 ?_;refine take_a 10 202 ?_;refine take_a 11 203 ?_;refine take_a 12 204 ?_;refine take_a 13 205 ?_;refine take_a 14 206 ?_;refine call_p (i:=15) (some 207) rfl rfl (by kernel_rfl) (fun K hK=>?_)
      go_simp
      go_at_call 20
      refine(deriv_p 224691 (by decide) (by decide) _ P (by have:=P3.out;omega) _ (PU2.out.mono (ac _)) P4.out.bq).mono ?_;rintro e y3 ⟨v3,rfl,h3,kk3⟩;have H3:=ZZ h3.pl;have hx1:=ZZ (show Ext Y2w y3 from ak (ac _) kk3);clear h3 kk3
      try go_wp2_with fail
      refine hK.out _ _ (HC.out _ hx1.out) (fun hHeld=>?_);clear hK K
      try simp only [Act.put,lyA,lyB,lyC]
      refine call_p (i:=16) (some 208) rfl rfl (by kernel_rfl) (fun K hK=>?_)
      go_simp
      go_at_call 17
      refine(free_p M HMX.out.1 (by have:=HMX.out;omega) _ _ P (derivF P) (by have:=P3.out;omega) (by have h1:=deriv_len P;have:=P3.out;omega) _ (PU2.out.mono hx1.out) H3.out (free_ok HMG.out P3.out (Nat.le_trans (deriv_len P) P3.out) (P4.out.mono (by decide)) (P4.out.deriv (v:=6) (Nat.le_trans (dg_len P) (Nat.le_trans P3.out (by decide))))) P5.out).mono ?_;rintro e y4 ⟨rfl,kk4⟩;have hx2:=ZZ (ak hx1.out kk4);clear kk4
      try go_wp2_with fail
      refine hK.out _ _ (HC.out _ hx2.out) (fun hHeld=>?_);clear hK K
      try simp only [Act.put,lyA,lyB,lyC]
      refine take_a 17 209 ?_;refine take_a 18 210 ?_;refine take_p (i:=19) 211 (v:=undef) rfl rfl (by kernel_rfl) (by kernel_rfl) (by kernel_rfl) (fun _ _ _ h=>h) (Or.inr ⟨rfl,rfl⟩) (by assumption) ?_
      try simp only [Act.put,lyA,lyB,lyC]
      refine take_p (i:=20) 212 (v:=undef) rfl rfl (by kernel_rfl) (by kernel_rfl) (by kernel_rfl) (fun _ _ _ h=>h) (Or.inr ⟨rfl,rfl⟩) (by assumption) ?_
      try simp only [Act.put,lyA,lyB,lyC]
      refine take_p (i:=21) 213 (v:=undef) rfl rfl (by kernel_rfl) (by kernel_rfl) (by kernel_rfl) (fun _ _ _ h=>h) (Or.inr ⟨rfl,rfl⟩) (by assumption) ?_
      try simp only [Act.put,lyA,lyB,lyC]
      refine take_p (i:=22) 214 (v:=undef) rfl rfl (by kernel_rfl) (by kernel_rfl) (by kernel_rfl) (fun _ _ _ h=>h) (Or.inr ⟨rfl,rfl⟩) (by assumption) ?_
      try simp only [Act.put,lyA,lyB,lyC]
      refine call_p (i:=23) (some 215) rfl rfl (by kernel_rfl) (fun K hK=>?_);rw [if_neg (by exact Bool.false_ne_true)];refine hK.out _ _ (by assumption) (fun hHeld=>?_);clear hK K
      try simp only [Act.put,lyA,lyB,lyC]
      refine take_p (i:=24) 216 (v:=undef) rfl rfl (by kernel_rfl) (by kernel_rfl) (by kernel_rfl) (fun _ _ _ h=>h) (Or.inr ⟨rfl,rfl⟩) (by assumption) ?_
      try simp only [Act.put,lyA,lyB,lyC]
      refine take_a 25 217 ?_;refine take_a 26 218 ?_;refine wpAnyH_done (by kernel_rfl) ?_ _;refine NoPanic.normal ?_;obtain⟨ko,rfl⟩:∃ko,ko=gk:=⟨_,rfl⟩;go_wp2_with fail
      go_loopg [28] j (fun k i wr=>∃l,Hid (l+k=j)∧i=.int .i64 (l:Int)∧Hid (Ext y4 wr))
      case atStart=>exact⟨0,ZZ (Nat.zero_add _),rfl,ZZ (ae _)⟩
      case round=>
       obtain⟨l,HL,rfl,HE2⟩:=hrel;rename World=>WI
       rcases Nat.eq_zero_or_pos gk with hz2|hz2
       ·subst hz2
        obtain rfl:l=j:=HL.out;have q1n:decide ((l:Int)<(l:Int))=false:=decide_eq_false (Int.lt_irrefl _);go_wp2_with fail
        go_roundg (ko - 1)
        case measure=>have:=HZ.out;omega
        case rel=>exact⟨l+1,ZZ (by have:=HJ.out;have:=HZ.out;omega),rfl,ZZ (H2.out.mono (ak hx2.out HE2.out)),ZZ (ak HE.out (ak K2.out (ak hx2.out HE2.out)))⟩
       have hlj:l<j:=by have:=HL.out;omega
       have q1n:decide ((l:Int)<(j:Int))=true:=decide_eq_true (by omega);have q4n:(l:Int)<(j:Int):=by omega
       have q5n:(0:Int)≤(l:Int):=by omega
       have q6n:(l:Int)<(nl:Int):=by omega
       obtain⟨Q,hQ⟩:∃P,ls[l]?=some P:=⟨ls[l]'(by rw [HNL.out];omega),List.getElem?_eq_getElem _⟩;obtain⟨z1,z2,z3,z4,-⟩:=X1.out l Q hQ;have Z3:=ZZ z3;have Z4:=ZZ z4;have ZC:=ZZ (P7.out l Q hlj hQ);have EI:=ZZ (ak HE.out (ak K2.out (ak hx2.out HE2.out)));obtain⟨bl',ol',ul',e3,hcl,hpl⟩:=(PL.out.mono EI.out).at_ hQ
       injection e3 with e3
       injection e3 with e3a e3b
       subst e3a e3b;obtain⟨Aq,cq,eq_⟩:=pl_form hpl;obtain⟨nq,hnq⟩:∃n,Q.length=n:=⟨_,rfl⟩;rw [hnq] at eq_;subst eq_;have PQ:=ZZ hpl;have PU3:=ZZ (PU2.out.mono (ak hx2.out HE2.out));have HC2:=ZZ (show ∀W,Ext WI W→W.cell? ⟨bl,ol+j,none⟩=some (.slice Au nu cu)∧W.cell? ⟨bl,ol+l,none⟩=some (.slice Aq nq cq) from fun W k=>⟨HC.out W (ak hx2.out (ak HE2.out k)),ao k hcl⟩);have HZ2:=ZZ hz2;have HLJ:=ZZ hlj;clear hQ z1 z2 z3 z4 hpl hcl hnq hz2 hlj
       go_upto_region 35 with (fail)
       refine wp_region_noPanic ?_;refine wp_region_held_drew (S:=fun W=>W.cell? ⟨bl,ol+j,none⟩=some (.slice Au nu cu)∧W.cell? ⟨bl,ol+l,none⟩=some (.slice Aq nq cq)) (by kernel_rfl) (HC2.out _ (ac _)) (fun hHeld=>?_);refine take_a 0 224 ?_;refine take_a 1 225 ?_;refine take_a 2 226 ?_;refine take_a 3 227 ?_;refine take_a 4 228 ?_;refine take_a 5 229 ?_;refine take_a 6 230 ?_;refine take_a 7 231 ?_;refine call_p (i:=8) (some 232) rfl rfl (by kernel_rfl) (fun K hK=>?_)
       go_simp
       go_at_call 17
       refine(free_p M HMX.out.1 (by have:=HMX.out;omega) _ _ P Q (by have:=P3.out;omega) (by have:=Z3.out;omega) _ (PU3.out.mono (ac _)) (PQ.out.mono (ac _)) (free_ok HMG.out P3.out Z3.out (P4.out.mono (by decide)) (Z4.out.mono (by decide))) ZC.out).mono ?_;rintro e y5 ⟨rfl,kk5⟩;have hx3:=ZZ (show Ext WI y5 from ak (ac _) kk5);clear kk5
       try go_wp2_with fail
       refine hK.out _ _ (HC2.out _ hx3.out) (fun hHeld=>?_);clear hK K
       try simp only [Act.put,lyA,lyB,lyC]
       refine take_a 9 233 ?_;refine wpAnyH_done (by kernel_rfl) ?_ _;refine NoPanic.normal ?_;go_wp2_with fail
       go_roundg (gk - 1)
       case measure=>have:=HZ2.out;omega
       case rel=>exact⟨l+1,ZZ (by have:=HL.out;have:=HZ2.out;omega),by have h1:=HJ30.out;have h2:=HLJ.out;rw [IntWalk.wrap64_in _ ⟨by omega,by omega⟩];rfl,ZZ (ak HE2.out hx3.out)⟩
end Go.Proofs.YtoefieefcndlkaaGreatDoor
