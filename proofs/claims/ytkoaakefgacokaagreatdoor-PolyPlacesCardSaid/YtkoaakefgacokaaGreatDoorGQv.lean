/- Quotient and rest of polynomials. Printed by gen_qv.py. -/
import Derived.Test.YtkoaakefgacokaaGreatDoorGQo
set_option linter.unusedVariables false
set_option linter.unusedSimpArgs false
set_option maxRecDepth 100000
set_option maxHeartbeats 64000000
namespace Go.Proofs.YtkoaakefgacokaaGreatDoor
open Go.RowKit
def smB (M:Nat) (l:List Rat):Bool:=l.all fun x=>decide (x.num.natAbs<2 ^ M) && decide (x.den<2 ^ M)
theorem sm_of {M:Nat} {l:List Rat} (h:smB M l=true):∀x ∈ l,Bq M x:=fun x hx=>by
 have h1:=List.all_eq_true.1 h x hx;rw [Bool.and_eq_true] at h1;exact⟨of_decide_eq_true h1.1,of_decide_eq_true h1.2⟩
theorem of_sm {M:Nat} {l:List Rat} (h:∀x ∈ l,Bq M x):smB M l=true:=
 List.all_eq_true.2 fun x hx=>by rw [Bool.and_eq_true];exact⟨decide_eq_true (h x hx).1,decide_eq_true (h x hx).2⟩
def lesL (rest q:List Rat) (k:Nat) (c:Rat) (j:Nat):List Rat:=(List.range rest.length).map fun i=>if k≤i∧i<k+j then co rest i - c*co q (i - k) else co rest i
theorem les_len (rest q:List Rat) (k:Nat) (c:Rat) (j:Nat):(lesL rest q k c j).length=rest.length:=by simp [lesL]
theorem les_get (rest q:List Rat) (k:Nat) (c:Rat) (j:Nat) {i:Nat} (hi:i<rest.length):(lesL rest q k c j)[i]?=some (if k≤i∧i<k+j then co rest i - c*co q (i - k) else co rest i):=by
 unfold lesL;rw [List.getElem?_map,List.getElem?_range hi];rfl
theorem les_zero (rest q:List Rat) (k:Nat) (c:Rat):lesL rest q k c 0=rest:=by
 apply List.ext_getElem?
 intro i
 rcases Nat.lt_or_ge i rest.length with hi|hi
 ·rw [les_get rest q k c 0 hi,if_neg (by omega)]
  unfold co;rw [List.getElem?_eq_getElem hi];rfl
 ·rw [List.getElem?_eq_none (by rw [les_len];exact hi),List.getElem?_eq_none hi]
theorem les_at (rest q:List Rat) {k j:Nat} (c:Rat) (h:k+j<rest.length):(lesL rest q k c j)[k+j]?=some (co rest (k+j)):=by
 rw [les_get rest q k c j h,if_neg (by omega)]
theorem les_set (rest q:List Rat) {k j:Nat} (c:Rat) (h:k+j<rest.length):(lesL rest q k c j).set (k+j) (co rest (k+j) - c*co q j)=lesL rest q k c (j+1):=by
 apply List.ext_getElem?
 intro i
 rcases Nat.lt_or_ge i rest.length with hi|hi
 ·by_cases e:k+j=i
  ·subst e
   rw [List.getElem?_set_self (by rw [les_len];exact hi),les_get rest q k c (j+1) hi,if_pos (by omega),Nat.add_sub_cancel_left]
  ·rw [List.getElem?_set_ne e,les_get rest q k c j hi,les_get rest q k c (j+1) hi]
   by_cases h1:k≤i∧i<k+j
   ·rw [if_pos h1,if_pos (by omega)]
   ·rw [if_neg h1,if_neg (by omega)]
 ·rw [List.getElem?_eq_none (by rw [List.length_set,les_len];exact hi),List.getElem?_eq_none (by rw [les_len];exact hi)]
def nextR (rest q:List Rat):List Rat:=trimF (lesL rest q (rest.length - q.length) (topF rest / topF q) q.length)
def divU:Nat→List Rat→List Rat→List Rat→List Rat × List Rat
 | 0,quo,rest,_=>(quo,rest)
 | n+1,quo,rest,q=>if rest.length<q.length then (quo,rest) else divU n (quo.set (rest.length - q.length) (topF rest / topF q)) (nextR rest q) q
def divF (p q:List Rat):List Rat × List Rat:=
 (trimF (divU ((trimF p).length+1) (List.replicate ((trimF p).length+1 - (trimF q).length) 0) (trimF p) (trimF q)).1,(divU ((trimF p).length+1) (List.replicate ((trimF p).length+1 - (trimF q).length) 0) (trimF p) (trimF q)).2)
def divB (M:Nat):Nat→List Rat→List Rat→Bool
 | 0,rest,q=>decide (rest.length<q.length)
 | n+1,rest,q=>if rest.length<q.length then true else smB M rest && divB M n (nextR rest q) q
def divOk (M:Nat) (p q:List Rat):Bool:=smB M p && smB M q && divB M ((trimF p).length+1) (trimF p) (trimF q)
theorem PlO.other {W:World} {g g' i:Nat} {v v':Value} {l l':List Rat} (h:PlO W g v l) (ho:PlO W g' v' l') (hne:g≠g') (hi:i<l'.length) (a b c:Value):PlO (put3at W g' (i*3) a b c) g v l:=by
 obtain⟨cap,cur,e,hh,h1,h2,h3,h4⟩:=h;refine⟨cap,cur,e,?_,h1,h2,h3,fun j r hr=>?_⟩
 ·unfold Go.Proofs.YtkoaakefgacokaaGreatDoor.put3at
  rw [Below.heap_setCell _ _ _ _ hne,Below.heap_setCell _ _ _ _ hne,Below.heap_setCell _ _ _ _ hne];exact hh
 ·obtain⟨cap',cur',-,hh',-⟩:=id ho
  obtain⟨s,A,k,ca,B,m,cb,c0,c1,c2,hn⟩:=h4 j r hr;exact⟨s,A,k,ca,B,m,cb,by rw [put3at_cell hh' _ _ _ g _ (.inl hne)];exact c0,by rw [put3at_cell hh' _ _ _ g _ (.inl hne)];exact c1,by rw [put3at_cell hh' _ _ _ g _ (.inl hne)];exact c2,hn.put3at ho hi _ _ _⟩
theorem top_get {l:List Rat} {n:Nat} (h:l.length=n+1):l[n]?=some (topF l):=by
 unfold topF co;rw [h,Nat.add_sub_cancel,List.getElem?_eq_getElem (by omega)];rfl
theorem top_trim_ne {p:List Rat} (h:trimF p≠[]):topF (trimF p)≠0:=by
 have h1:=trim_last h;unfold topF;rw [co_trim];exact h1
theorem divided_p (M:Nat) (hM0:0<M) (hM:4*M+1≤1099511627776) (vp vq:Value) (p q:List Rat) (hlp:p.length≤100000) (hlq:q.length≤100000) (w:World) (hp:Pl w vp p) (hq:Pl w vq q) (hq0:trimF q≠[]) (hok:divOk M p q=true):Calls Tryz.prog 72 #[vp,vq] w fun e w'=>∃v1 v2,e=.returned (.tuple #[v1,v2])∧PlN w.heap.size w' v1 (divF p q).1∧PlN w.heap.size w' v2 (divF p q).2∧Ext w w':=by
 unfold divOk at hok;rw [Bool.and_eq_true,Bool.and_eq_true] at hok;obtain⟨⟨hsp,hsq⟩,hdb⟩:=hok;obtain⟨D,hD⟩:∃D,divU ((trimF p).length+1) (List.replicate ((trimF p).length+1 - (trimF q).length) 0) (trimF p) (trimF q)=D:=⟨_,rfl⟩;have HD0:=ZZ (show divF p q=(trimF D.1,D.2) by unfold divF;rw [hD]);obtain⟨R,hR⟩:∃R,trimF p=R:=⟨_,rfl⟩;obtain⟨Q,hQ⟩:∃Q,trimF q=Q:=⟨_,rfl⟩;have HLR:=ZZ (show R.length≤100000 by rw [←hR];exact Nat.le_trans (trim_le p) hlp);have HLQ:=ZZ (show Q.length≤100000 by rw [←hQ];exact Nat.le_trans (trim_le q) hlq);have HBQ:=ZZ (show ∀x ∈ Q,Bq M x from fun x hx=>sm_of hsq x (trim_mem (by rw [hQ];exact hx)));have HTQ:=ZZ (show topF Q≠0 by rw [←hQ];exact top_trim_ne hq0);rw [hR,hQ] at hD hdb;rw [hQ] at hq0;obtain⟨n,hn⟩:∃n,Q.length=n+1:=⟨Q.length - 1,by have:=List.length_pos_iff.2 hq0;omega⟩;obtain⟨m,hm⟩:∃m,R.length=m:=⟨_,rfl⟩;have HTR:=ZZ hR;have HTQ':=ZZ hQ;have HP:=ZZ hp;have HQ:=ZZ hq;have HLP:=ZZ hlp;have HLQ0:=ZZ hlq;have HDU:=ZZ hD;have HDB:=ZZ hdb;have HN:=ZZ hn;have HMM:=ZZ hm;have HM:=ZZ hM;have HM0:=ZZ hM0;clear hp hq hlp hlq hM hM0 hD hdb hn hm hq0 hsp hsq hR hQ
 go_enter Tryz.func72,Tryz.ntmps72
 go_wp2_with fail;refine(trim_q _ p (by have:=HLP.out;omega) _ HP.out).mono ?_
 rintro e w1 ⟨v1,rfl,h1,k1⟩;rw [HTR.out] at h1;have H1:=ZZ h1;have K1:=ZZ k1;clear h1 k1;go_wp2_with fail;refine(trim_q _ q (by have:=HLQ0.out;omega) _ (HQ.out.mono K1.out)).mono ?_;rintro e w2 ⟨v2,rfl,h2,k2⟩;rw [HTQ'.out] at h2
 obtain⟨gQ,hgQ,hpQ⟩:∃gQ,w1.heap.size≤gQ∧PlO w2 gQ v2 Q:=by
  rcases h2 with ⟨-,h3⟩|h3
  ·have:=HN.out;rw [h3] at this;cases this
  ·exact h3
 obtain⟨capQ,curQ,eQ,-⟩:=id hpQ;rw [HN.out] at eQ;subst eQ;obtain⟨Ar,capr,er,hcr,-⟩:=H1.out.pl;rw [HMM.out] at er;subst er;have HPQ:=ZZ hpQ;have HGQ:=ZZ hgQ;have K2:=ZZ (al K1.out k2);have K2b:=ZZ k2;clear h2 k2 hpQ hgQ hcr;obtain⟨nq,hnq⟩:∃nq,nq=m+1 - (n+1):=⟨_,rfl⟩
 have q3:IntKind.i64.wrap ((m:Int) - ((n+1:Nat):Int))=(m:Int) - ((n:Int)+1):=by
  have h1:=HLR.out;have h2:=HLQ.out;have h3:=HN.out;have h4:=HMM.out;rw [show (m:Int) - ((n+1:Nat):Int)=(m:Int) - ((n:Int)+1) by omega];exact IntWalk.i64_in _ (by omega)
 have q3':IntKind.i64.wrap ((m:Int) - ((n:Int)+1))=(m:Int) - ((n:Int)+1):=by
  have h1:=HLR.out;have h2:=HLQ.out;have h3:=HN.out;have h4:=HMM.out;exact IntWalk.i64_in _ (by omega)
 have q4:IntKind.i64.wrap ((m:Int) - ((n:Int)+1)+1)=(m:Int) - (n:Int):=by
  have h1:=HLR.out;have h2:=HLQ.out;have h3:=HN.out;have h4:=HMM.out;rw [show (m:Int) - ((n:Int)+1)+1=(m:Int) - (n:Int) by omega];exact IntWalk.i64_in _ (by omega)
 have q5:max ((m:Int) - (n:Int)) 0=(nq:Int):=by omega
 have q5':(if (m:Int) - (n:Int)<0 then (0:Int) else (m:Int) - (n:Int))=(nq:Int):=by split <;> omega
 have qmk:=mk_nums nq (nq:Int) rfl (by have h1:=HLR.out;have h4:=HMM.out;omega) w2;have HNQ:=ZZ hnq;clear hnq
 go_upto_region 2 with (fail)
 go_wp2_with fail;obtain⟨gq,hgq⟩:∃g,w2.heap.size=g:=⟨_,rfl⟩
 have E3:=ZZ (ab w2 (.cells (zrw nq) 38));have PQ0:=ZZ (show PlO (w2.alloc (.cells (zrw nq) 38)) gq (.slice (some ⟨gq,0,none⟩) nq nq) (List.replicate nq 0) from hgq ▸ plo_new w2 nq (by have h1:=HLR.out;have h4:=HMM.out;have h5:=HNQ.out;omega));have HGQQ:=ZZ (show gQ<gq from by obtain⟨cp,cur,-,hh,-⟩:=HPQ.out;have:=lt_of_block hh;omega);have HGW:=ZZ (show w.heap.size≤gq∧w.heap.size≤gQ from ⟨by have:=K2.out.size;omega,Nat.le_trans K1.out.size HGQ.out⟩)
 have PR0:=ZZ (show PlN w.heap.size w1 (.slice Ar m capr) R from by
  rcases H1.out with h|⟨g,hg,h⟩
  ·exact .inl h
  ·exact .inr ⟨g,hg,h⟩)
 have NR0:=ZZ (show ∀g,Ar=some ⟨g,0,none⟩→g≠gq∧g≠gQ from fun g hg=>by
  rcases H1.out with ⟨h,-⟩|⟨g',hg',h⟩
  ·injection h with h1 h2 h3
   rw [h1] at hg;cases hg
  ·obtain⟨cp,cur,e,hh,-⟩:=h
   injection e with e1 e2 e3
   rw [hg] at e1
   injection e1 with e4
   injection e4 with e5
   have h6:=lt_of_block hh;have h7:=HGQ.out;have h8:=HGQQ.out
   omega)
 generalize World.alloc w2 (.cells (zrw nq) _)=W3 at *;rw [hgq];clear hgq qmk q5 q5' q4 q3 q3'
 go_loopg [5] (m+1) (fun k r wr=>∃(rest quo:List Rat) (Ax:Option Addr) (lr cx:Nat),r=.slice Ax lr cx∧Hid (rest.length=lr)∧Hid (divB M k rest Q=true)∧Hid (divU k quo rest Q=D)∧Hid (quo.length=nq)∧Hid (lr≤m)∧Hid (PlN w.heap.size wr (.slice Ax lr cx) rest)∧Hid (∀g,Ax=some ⟨g,0,none⟩→g≠gq∧g≠gQ)∧Hid (PlO wr gq (.slice (some ⟨gq,0,none⟩) nq nq) quo)∧Hid (PlO wr gQ (.slice (some ⟨gQ,0,none⟩) (n+1) capQ) Q)∧Hid (Ext w wr))
 case atStart=>
  refine⟨R,List.replicate nq 0,Ar,m,capr,rfl,HMM,ZZ (by rw [←HMM.out];exact HDB.out),ZZ (by rw [HNQ.out,←HMM.out,←HN.out];exact HDU.out),ZZ (List.length_replicate ..),ZZ (Nat.le_refl _),ZZ ?_,NR0,PQ0,ZZ (HPQ.out.mono E3.out),ZZ (al K2.out E3.out)⟩
  rcases PR0.out with h|⟨g,hg,h⟩
  ·exact .inl h
  ·exact .inr ⟨g,hg,h.mono (al K2b.out E3.out)⟩
 case round=>
  obtain⟨rest,quo,Ax,lr,cx,rfl,HLE,HDBR,HDUR,HQL,HLM,HPR,HNE,HPO,HPQQ,HE⟩:=hrel;rename World=>WR
  rcases Nat.lt_or_ge lr (n+1) with hlt|hge
  ·have q1:decide ((n:Int)+1≤(lr:Int))=false:=decide_eq_false (by omega)
   have q1':decide (n+1≤lr)=false:=decide_eq_false (by omega);have q1'':decide (n<lr)=false:=decide_eq_false (by omega)
   have HDE:=ZZ (show D=(quo,rest) from by
    rw [←HDUR.out]
    cases gk with
    | zero=>rfl
    | succ k=>exact if_pos (by rw [HLE.out,HN.out];exact hlt))
   clear hlt;go_wp2_with fail;refine(trim_q _ quo (by have h1:=HQL.out;have h2:=HNQ.out;have h3:=HLR.out;have h4:=HMM.out;omega) _ (by have h:=HPO.out.pl;exact h)).mono ?_;rintro e w' ⟨v',rfl,hn,kk⟩;have HN2:=ZZ hn;have HK2:=ZZ kk;clear hn kk;go_wp2_with fail;refine bodyPost_ret (v:=.tuple #[v',.slice Ax lr cx]) (by simp [results,Tryz.f72]) rfl ?_;refine⟨_,_,rfl,?_,?_,al HE.out HK2.out⟩
   ·rw [HD0.out,HDE.out]
    rcases HN2.out with hn|⟨g,hg,hn⟩
    ·exact .inl hn
    ·exact .inr ⟨g,Nat.le_trans HE.out.size hg,hn⟩
   ·rw [HD0.out,HDE.out]
    rcases HPR.out with h|⟨g,hg,h⟩
    ·exact .inl h
    ·exact .inr ⟨g,hg,h.mono HK2.out⟩
  ·obtain⟨kk,rfl⟩:∃kk,lr=kk+n+1:=⟨lr - (n+1),by omega⟩
   have hnl:¬ rest.length<Q.length:=by rw [HLE.out,HN.out];omega
   obtain⟨ko,rfl⟩:∃k,gk=k+1:=⟨gk - 1,by
    rcases Nat.eq_zero_or_pos gk with h|h
    ·subst h;exact absurd (of_decide_eq_true HDBR.out) hnl
    ·omega⟩
   have HB2:=ZZ (show smB M rest=true∧divB M ko (nextR rest Q) Q=true from by
    have h:=HDBR.out;unfold divB at h;rw [if_neg hnl,Bool.and_eq_true] at h;exact h)
   have HBR:=ZZ (sm_of HB2.out.1);have HKK:=ZZ (show rest.length - Q.length=kk from by rw [HLE.out,HN.out];omega)
   have HU2:=ZZ (show divU ko (quo.set kk (topF rest / topF Q)) (nextR rest Q) Q=D from by
    have h:=HDUR.out;unfold divU at h;rw [if_neg hnl,HKK.out] at h;exact h)
   obtain⟨cq,hcq⟩:∃c,topF rest / topF Q=c:=⟨_,rfl⟩;have HCQ:=ZZ hcq;have HTOP:=ZZ (top_get (show rest.length=kk+n+1 from HLE.out));have HTOPQ:=ZZ (top_get HN.out);have BT:=ZZ (HBR.out _ (List.mem_of_getElem? HTOP.out));have BTQ:=ZZ (HBQ.out _ (List.mem_of_getElem? HTOPQ.out));have BCC:=ZZ (show Bq (M+M) cq from by rw [←HCQ.out];exact BT.out.div BTQ.out HTQ.out);have q1:decide ((n:Int)+1≤((kk+n+1:Nat):Int))=true:=decide_eq_true (by omega);have q1b:decide ((n:Int)+1≤(kk:Int)+(n:Int)+1)=true:=decide_eq_true (by omega);have q1':decide (n+1≤kk+n+1)=true:=decide_eq_true (by omega)
   have q3:IntKind.i64.wrap ((kk:Int)+(n:Int)+1 - ((n:Int)+1))=(kk:Int):=by
    have h1:=HLM.out;have h3:=HLR.out;have h4:=HMM.out;rw [show (kk:Int)+(n:Int)+1 - ((n:Int)+1)=(kk:Int) by omega];exact IntWalk.i64_in _ (by omega)
   obtain⟨g,rfl,hgw,hpr⟩:∃g,Ax=some ⟨g,0,none⟩∧w.heap.size≤g∧PlO WR g (.slice Ax (kk+n+1) cx) rest:=by
    rcases HPR.out with ⟨h,h0⟩|⟨g,hg,h⟩
    ·injection h with h1 h2 h3;omega
    ·obtain⟨cp,cur,e,hr⟩:=id h
     injection e with e1 e2 e3
     exact⟨g,e1,hg,h⟩
   have HRO:=ZZ hpr;have HGE:=ZZ hgw;have HNG:=ZZ (HNE.out g rfl);clear hnl hcq hge hpr hgw;go_wp2_with fail;refine(top_q _ rest (by have h1:=HLM.out;have h2:=HLE.out;have h3:=HLR.out;have h4:=HMM.out;omega) (kk+n) (topF rest) HLE.out HTOP.out _ (by have h:=HPR.out.pl;rw [HLE.out.symm] at h ⊢;exact h)).mono ?_;rintro e w4 ⟨v4,rfl,h4,k4⟩;have H4:=ZZ h4;have K4:=ZZ k4;clear h4 k4;go_wp2_with fail;have HPQ4:=ZZ (HPQQ.out.mono K4.out).pl;refine(top_q _ Q (by have h1:=HLQ.out;omega) n (topF Q) HN.out HTOPQ.out _ (by have h:=HPQ4.out;rw [HN.out.symm] at h ⊢;exact h)).mono ?_;rintro e w5 ⟨v5,rfl,h5,k5⟩;have H5:=ZZ h5;have K5:=ZZ (al K4.out k5);have H4':=ZZ (H4.out.mono k5);clear h5 k5;go_wp2_with fail;refine(over_q M (by have:=HM.out;omega) _ _ (topF rest) (topF Q) _ H4'.out H5.out BT.out BTQ.out HTQ.out).mono ?_;rintro e w6 ⟨v6,rfl,h6,k6⟩;rw [HCQ.out] at h6;obtain⟨s1,A1,k1,ca1,B1,l1,cb1,rfl⟩:=h6.form2;have NC0:=ZZ (h6.mono (ab w6 (.cells #[.bool s1,.slice A1 k1 ca1,.slice B1 l1 cb1] 38)));have RC0:=ZZ (heap_alloc_new w6 (.cells #[.bool s1,.slice A1 k1 ca1,.slice B1 l1 cb1] 38));have K6:=ZZ (al K5.out (al k6 (ab w6 (.cells #[.bool s1,.slice A1 k1 ca1,.slice B1 l1 cb1] 38))));have K56:=ZZ k6;clear h6 k6
   go_upto_region 5 with (fail)
   generalize World.alloc w6 (.cells #[.bool s1,.slice A1 k1 ca1,.slice B1 l1 cb1] _)=W7 at *
   have HGC:=ZZ (show w6.heap.size≠gq∧w6.heap.size≠gQ∧w6.heap.size≠g from by
    have hs:=(al K5.out K56.out).size;obtain⟨cp1,cu1,-,y1,-⟩:=HPO.out;obtain⟨cp2,cu2,-,y2,-⟩:=HPQQ.out;obtain⟨cp3,cu3,-,y3,-⟩:=HRO.out;have z1:=lt_of_block y1;have z2:=lt_of_block y2;have z3:=lt_of_block y3;refine⟨?_,?_,?_⟩ <;> omega)
   generalize w6.heap.size=gc at *;have PO7:=ZZ (HPO.out.mono K6.out);have hkn:kk<nq:=by have h1:=HLM.out;have h2:=HNQ.out;omega
   have HKN:=ZZ hkn;have q4:(kk:Int)<(nq:Int):=by omega
   have q5:(0:Int)≤(kk:Int):=by omega
   obtain⟨-,cur7,-,hh7,-,-,-,ht7⟩:=PO7.out;have zf0:=frozen_row hh7 (kk*3);have zf1:=frozen_row hh7 (kk*3+1);have zf2:=frozen_row hh7 (kk*3+2);obtain⟨q7,hq7⟩:∃q,quo[kk]?=some q:=⟨quo[kk]'(by rw [HQL.out];exact hkn),List.getElem?_eq_getElem _⟩;obtain⟨s2,A2,k2,ca2,B2,l2,cb2,z0,z1,z2,-⟩:=ht7 kk q7 hq7;obtain⟨c0,c1,c2,-⟩:=aj RC0.out;clear hh7 ht7 hq7 hkn
   go_upto_region 6 with (fail)
   have hcur:kk<quo.length:=by rw [HQL.out];exact HKN.out
   have PO8:=PlO.set (PO7.out) (i:=kk) hcur NC0.out;have PQ8:=(HPQQ.out.mono K6.out).other PO7.out (i:=kk) (show gQ≠gq from Nat.ne_of_lt HGQQ.out) hcur (.bool s1) (.slice A1 k1 ca1) (.slice B1 l1 cb1);have PR8:=(HRO.out.mono K6.out).other PO7.out (i:=kk) HNG.out.1 hcur (.bool s1) (.slice A1 k1 ca1) (.slice B1 l1 cb1);have NC8:=NC0.out.put3at PO7.out (i:=kk) hcur (.bool s1) (.slice A1 k1 ca1) (.slice B1 l1 cb1)
   have RC8:(put3at W7 gq (kk*3) (.bool s1) (.slice A1 k1 ca1) (.slice B1 l1 cb1)).heap[gc]?=some (.cells #[.bool s1,.slice A1 k1 ca1,.slice B1 l1 cb1] 38 (0,0)):=by
    unfold put3at;rw [Below.heap_setCell _ _ _ _ HGC.out.1,Below.heap_setCell _ _ _ _ HGC.out.1,Below.heap_setCell _ _ _ _ HGC.out.1];exact RC0.out
   have E8:Ext w (put3at W7 gq (kk*3) (.bool s1) (.slice A1 k1 ca1) (.slice B1 l1 cb1)):=(((al HE.out K6.out).setCell HGW.out.1 _).setCell HGW.out.1 _).setCell HGW.out.1 _;clear hcur z0 z1 z2 zf0 zf1 zf2 c0 c1 c2 q3 q4 q5;generalize hW8:(World.setCell (World.setCell (World.setCell W7 ⟨gq,kk*3,none⟩ (.bool s1)) ⟨gq,kk*3+1,none⟩ (.slice A1 k1 ca1)) ⟨gq,kk*3+2,none⟩ (.slice B1 l1 cb1))=W8;have hW8':put3at W7 gq (kk*3) (.bool s1) (.slice A1 k1 ca1) (.slice B1 l1 cb1)=W8:=hW8;rw [hW8'] at PO8 PQ8 PR8 NC8 RC8 E8;have PO8:=ZZ PO8;have PQ8:=ZZ PQ8;have PR8:=ZZ PR8;have NC8:=ZZ NC8;have RC8:=ZZ RC8;have E8:=ZZ E8;clear hW8 hW8';go_wp2_with fail
   go_loopg [43] (n+1) (fun k u wr=>∃j,Hid (j+k=n+1)∧u=.int .i64 (j:Int)∧Hid (PlO wr g (.slice (some ⟨g,0,none⟩) (kk+n+1) cx) (lesL rest Q kk cq j))∧Hid (PlO wr gq (.slice (some ⟨gq,0,none⟩) nq nq) (quo.set kk cq))∧Hid (PlO wr gQ (.slice (some ⟨gQ,0,none⟩) (n+1) capQ) Q)∧Hid (wr.heap[gc]?=some (.cells #[.bool s1,.slice A1 k1 ca1,.slice B1 l1 cb1] 38 (0,0)))∧Hid (Nm wr (.agg #[.bool s1,.slice A1 k1 ca1,.slice B1 l1 cb1]) cq)∧Hid (Ext w wr))
   case atStart=>exact⟨0,ZZ (Nat.zero_add _),rfl,ZZ (by rw [les_zero];exact PR8.out),PO8,PQ8,RC8,NC8,E8⟩
   case round=>
    obtain⟨j,HJ,rfl,HO2,HOQ,HOQQ,RG,NC,HE2⟩:=hrel;rename World=>WI
    rcases Nat.eq_zero_or_pos gk with hz2|hz2
    ·subst hz2
     have HJE:=ZZ (show j=n+1 from HJ.out);have q1n:decide ((j:Int)<(n:Int)+1)=false:=decide_eq_false (by have:=HJ.out;omega);have q1n':decide (j<n+1)=false:=decide_eq_false (by have:=HJ.out;omega);go_wp2_with fail;refine(trim_q _ (lesL rest Q kk cq j) (by rw [les_len,HLE.out];have h1:=HLM.out;have h3:=HLR.out;have h4:=HMM.out;omega) _ (by have h:=HO2.out.pl;exact h)).mono ?_;rintro e w9 ⟨v9,rfl,h9,k9⟩;rw [show trimF (lesL rest Q kk cq j)=nextR rest Q by unfold nextR;rw [HKK.out,HCQ.out,HN.out,HJE.out]] at h9;obtain⟨A9,cx9,e9,-,-⟩:=h9.pl;obtain⟨l9,hl9⟩:∃l,(nextR rest Q).length=l:=⟨_,rfl⟩;rw [hl9] at e9;subst e9;have HL9:=ZZ hl9;have H9:=ZZ h9;have K9:=ZZ k9
     have HLM9:=ZZ (show l9≤m from by
      have h1:=trim_le (lesL rest Q kk cq j);rw [show trimF (lesL rest Q kk cq j)=nextR rest Q by unfold nextR;rw [HKK.out,HCQ.out,HN.out,HJE.out],les_len,HL9.out,HLE.out] at h1;have h2:=HLM.out
      omega)
     clear h9 k9 hl9;go_wp2_with fail
     go_roundg ko
     case measure=>omega
     case rel=>
      refine⟨nextR rest Q,quo.set kk cq,A9,l9,cx9,rfl,HL9,ZZ HB2.out.2,ZZ (by rw [←HCQ.out];exact HU2.out),ZZ (by rw [List.length_set];exact HQL.out),HLM9,ZZ ?_,ZZ ?_,ZZ (HOQ.out.mono K9.out),ZZ (HOQQ.out.mono K9.out),ZZ (al HE2.out K9.out)⟩
      ·rcases H9.out with h|⟨g',hg',h⟩
       ·exact .inl h
       ·exact .inr ⟨g',Nat.le_trans HE2.out.size hg',h⟩
      ·intro g' hg'
       rcases H9.out with ⟨h,-⟩|⟨g2,hg2,h⟩
       ·injection h with h1 h2 h3
        rw [h1] at hg';cases hg'
       ·obtain⟨cp,cur,e,hh,-⟩:=h
        injection e with e1 e2 e3
        rw [hg'] at e1
        injection e1 with e4
        injection e4 with e5
        obtain⟨cp1,cu1,-,y1,-⟩:=HOQ.out;obtain⟨cp2,cu2,-,y2,-⟩:=HOQQ.out;have z1:=lt_of_block y1;have z2:=lt_of_block y2;omega
    ·have hjn:j<n+1:=by have:=HJ.out;omega
     have hjq:j<Q.length:=by rw [HN.out];exact hjn
     have hjr:kk+j<rest.length:=by rw [HLE.out];omega
     have q1n:decide ((j:Int)<(n:Int)+1)=true:=decide_eq_true (by omega);have q1n':decide (j<n+1)=true:=decide_eq_true hjn;have q4n:(j:Int)<(n:Int)+1:=by omega
     have q5n:(0:Int)≤(j:Int):=by omega
     have q6:IntKind.i64.wrap ((kk:Int)+(j:Int))=(kk:Int)+(j:Int):=by
      have h1:=HLM.out;have h3:=HLR.out;have h4:=HMM.out;exact IntWalk.i64_in _ (by omega)
     have q7:(kk:Int)+(j:Int)<(kk:Int)+(n:Int)+1:=by omega
     have q8:(0:Int)≤(kk:Int)+(j:Int):=by omega
     have q9:((kk:Int)+(j:Int)).toNat=kk+j:=by omega
     have hq2:Q[j]?=some (co Q j):=by unfold co;rw [List.getElem?_eq_getElem hjq];rfl
     obtain⟨-,-,-,-,-,-,-,ht2⟩:=HOQQ.out;obtain⟨s2,A2,k2,ca2,B2,l2,cb2,c0,c1,c2,hn2⟩:=ht2 j _ hq2;have BQ2:=ZZ (HBQ.out (co Q j) (List.mem_of_getElem? hq2));have BQ3:=ZZ (HBR.out (co rest (kk+j)) (List.mem_of_getElem? (show rest[kk+j]?=some (co rest (kk+j)) by unfold co;rw [List.getElem?_eq_getElem hjr];rfl)));have E6:=ZZ (ab WI (.cells #[.bool s2,.slice A2 k2 ca2,.slice B2 l2 cb2] 38));have N2:=ZZ (hn2.mono (ab WI (.cells #[.bool s2,.slice A2 k2 ca2,.slice B2 l2 cb2] 38)));have R7:=ZZ (heap_alloc_new WI (.cells #[.bool s2,.slice A2 k2 ca2,.slice B2 l2 cb2] 38));have HZ2:=ZZ hz2;have HJQ:=ZZ hjr;clear hn2 hq2 ht2 hz2 hjq hjr
     go_upto_region 9 with (fail)
     generalize World.alloc WI (.cells #[.bool s2,.slice A2 k2 ca2,.slice B2 l2 cb2] _)=W6 at *;generalize WI.heap.size=g7 at *;have PO:=ZZ (show ∀W,Ext W6 W→PlO W g (.slice (some ⟨g,0,none⟩) (kk+n+1) cx) (lesL rest Q kk cq j) from fun W k=>HO2.out.mono (al E6.out k));obtain⟨-,-,-,-,-,-,-,h4⟩:=PO.out W6 (ae _);obtain⟨s3,A3,k3,ca3,B3,l3,cb3,d0,d1,d2,hn3⟩:=h4 (kk+j) _ (les_at rest Q cq HJQ.out);have N3:=ZZ hn3
     have HC:=ZZ (show ∀W,Ext W6 W→W.cell? ⟨g,(kk+j)*3,none⟩=some (.bool s3)∧W.cell? ⟨g,(kk+j)*3+1,none⟩=some (.slice A3 k3 ca3)∧W.cell? ⟨g,(kk+j)*3+2,none⟩=some (.slice B3 l3 cb3)∧W.cell? ⟨gc,0,none⟩=some (.bool s1)∧W.cell? ⟨gc,1,none⟩=some (.slice A1 k1 ca1)∧W.cell? ⟨gc,2,none⟩=some (.slice B1 l1 cb1)∧W.cell? ⟨g7,0,none⟩=some (.bool s2)∧W.cell? ⟨g7,1,none⟩=some (.slice A2 k2 ca2)∧W.cell? ⟨g7,2,none⟩=some (.slice B2 l2 cb2) from fun W k=>by
      obtain⟨y0,y1,y2,-⟩:=aj ((k.block _ (lt_of_block R7.out)).trans R7.out);have kk:=al E6.out k;obtain⟨x0,x1,x2,-⟩:=aj ((kk.block _ (lt_of_block RG.out)).trans RG.out);exact⟨ao k d0,ao k d1,ao k d2,x0,x1,x2,y0,y1,y2⟩)
     clear c0 c1 c2 d0 d1 d2 hn3 h4;have hun:undef=.tuple #[]:=rfl;refine wp_region_noPanic ?_;refine region_L (S:=fun W=>W.cell? ⟨g,(kk+j)*3,none⟩=some (.bool s3)∧W.cell? ⟨g,(kk+j)*3+1,none⟩=some (.slice A3 k3 ca3)∧W.cell? ⟨g,(kk+j)*3+2,none⟩=some (.slice B3 l3 cb3)∧W.cell? ⟨gc,0,none⟩=some (.bool s1)∧W.cell? ⟨gc,1,none⟩=some (.slice A1 k1 ca1)∧W.cell? ⟨gc,2,none⟩=some (.slice B1 l1 cb1)∧W.cell? ⟨g7,0,none⟩=some (.bool s2)∧W.cell? ⟨g7,1,none⟩=some (.slice A2 k2 ca2)∧W.cell? ⟨g7,2,none⟩=some (.slice B2 l2 cb2)) 15 (by kernel_rfl) (HC.out _ (ac _)) (fun hHeld=>?_);refine take_b 0 48 ?_;refine take_b 1 49 ?_;refine take_b 2 50 ?_;refine take_b 3 51 ?_;refine take_b 4 52 ?_;refine take_b 5 53 ?_;refine take_b 6 54 ?_;refine take_b 7 55 ?_;refine take_b 8 56 ?_;refine take_b 9 57 ?_;refine take_b 10 58 ?_;refine take_b 11 59 ?_;refine call_L (i:=12) 60 rfl rfl (by kernel_rfl) (fun K hK=>?_)
     go_simp
     go_at_call 22
     refine(mul_q (M+M) (by have:=HM.out;omega) _ _ cq (co Q j) _ (NC.out.mono (al E6.out (ac _))) (N2.out.mono (ac _)) BCC.out (BQ2.out.mono (by omega))).mono ?_;rintro e w4 ⟨v4,rfl,h4,kk4⟩;obtain⟨s4,A4,k4,ca4,B4,l4,cb4,rfl⟩:=h4.form2;have H4:=ZZ h4;have hx1:=ZZ (show Ext W6 w4 from al (ac _) kk4);clear h4 kk4
     try go_wp2_with fail
     refine hK.out _ _ (HC.out _ hx1.out) (fun hHeld=>?_);clear hK K
     try simp only [Act.put,lyA,lyB,lyC]
     refine call_L (i:=13) 61 rfl rfl (by kernel_rfl) (fun K hK=>?_)
     go_simp
     go_at_call 85
     refine(sub_q (M+M+M) (by have:=HM.out;omega) _ _ (co rest (kk+j)) (cq*co Q j) _ (N3.out.mono hx1.out) H4.out (BQ3.out.mono (by omega)) (BCC.out.mul BQ2.out)).mono ?_;rintro e w5 ⟨v5,rfl,h5,kk5⟩;obtain⟨s5,A5,k5,ca5,B5,l5,cb5,rfl⟩:=h5.form2;have H5:=ZZ h5;have hx2:=ZZ (al hx1.out kk5);clear h5 kk5
     try go_wp2_with fail
     refine hK.out _ _ (HC.out _ hx2.out) (fun hHeld=>?_);clear hK K
     try simp only [Act.put,lyA,lyB,lyC]
     refine take_b 14 62 ?_;refine last_L rfl (by kernel_rfl) (by kernel_rfl) (fun K hK=>?_);have hp5:=PO.out w5 hx2.out;obtain⟨-,cur5,-,hh5,-⟩:=id hp5;have zf0:=frozen_row hh5 ((kk+j)*3);have zf1:=frozen_row hh5 ((kk+j)*3+1);have zf2:=frozen_row hh5 ((kk+j)*3+2);obtain⟨z0,z1,z2,-⟩:=HC.out w5 hx2.out;clear hp5 hh5
     go_simp
     refine hK.out _ _ ?_;clear hK K
     try simp only [Act.put,lyA,lyB,lyC]
     refine NoPanic.normal ?_;have hlen:kk+j<(lesL rest Q kk cq j).length:=by rw [les_len];exact HJQ.out
     have kk6:=al E6.out hx2.out;have HP7:=ZZ (PlO.set (PO.out w5 hx2.out) (i:=kk+j) hlen H5.out);have HQ7:=ZZ ((HOQ.out.mono kk6).other (PO.out w5 hx2.out) (i:=kk+j) (fun e=>HNG.out.1 e.symm) hlen (.bool s5) (.slice A5 k5 ca5) (.slice B5 l5 cb5));have HQQ7:=ZZ ((HOQQ.out.mono kk6).other (PO.out w5 hx2.out) (i:=kk+j) (fun e=>HNG.out.2 e.symm) hlen (.bool s5) (.slice A5 k5 ca5) (.slice B5 l5 cb5));have NC7:=ZZ ((NC.out.mono kk6).put3at (PO.out w5 hx2.out) (i:=kk+j) hlen (.bool s5) (.slice A5 k5 ca5) (.slice B5 l5 cb5));have E7:=ZZ (show Ext w (put3at w5 g ((kk+j)*3) (.bool s5) (.slice A5 k5 ca5) (.slice B5 l5 cb5)) from (((al HE2.out kk6).setCell HGE.out _).setCell HGE.out _).setCell HGE.out _)
     have RG7:=ZZ (show (put3at w5 g ((kk+j)*3) (.bool s5) (.slice A5 k5 ca5) (.slice B5 l5 cb5)).heap[gc]?=some (.cells #[.bool s1,.slice A1 k1 ca1,.slice B1 l1 cb1] 38 (0,0)) from by
      have h1:=(kk6.block _ (lt_of_block RG.out)).trans RG.out;unfold put3at;rw [Below.heap_setCell _ _ _ _ HGC.out.2.2,Below.heap_setCell _ _ _ _ HGC.out.2.2,Below.heap_setCell _ _ _ _ HGC.out.2.2];exact h1)
     clear hlen kk6;go_wp2_with fail
     go_roundg (gk - 1)
     case measure=>have:=HZ2.out;omega
     case rel=>
      refine⟨j+1,ZZ (by have:=HJ.out;have:=HZ2.out;omega),by have h1:=HLQ.out;have h2:=HN.out;have h3:=HJ.out;rw [IntWalk.wrap64_in _ ⟨by omega,by omega⟩];rfl,ZZ ?_,HQ7,HQQ7,RG7,NC7,E7⟩;have h8:=HP7.out;rw [les_set rest Q cq HJQ.out] at h8;exact h8
end Go.Proofs.YtkoaakefgacokaaGreatDoor
