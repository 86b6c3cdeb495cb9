/- Sturm's chain. Printed by gen_yd.py. Texts: the decimal digits of a natural number. -/
import Derived.Test.YtjamgccgoapbeaaGreatDoorGYa
import Derived.Laws.EntriesVeiled
import Derived.Test.YtjamgccgoapbeaaGreatDoorGTf
import Derived.Test.YtjamgccgoapbeaaGreatDoorGRd
import Derived.Maps.AppendAt
import Derived.OwnWalk
import Derived.Lib.OwnBridge
set_option linter.unusedVariables false
set_option maxRecDepth 100000
set_option maxHeartbeats 64000000
namespace Go.Proofs.YtjamgccgoapbeaaGreatDoor
open Go Go.RowKit Go.Shelf
set_option linter.unusedSimpArgs false
attribute [local go_sem] Oper.semAt_some
def smallF (p:List Rat):List Rat:=if trimF p=[] then [] else scaleF (trimF p) (1 / absQ (topF (trimF p)))
theorem small_len (p:List Rat):(smallF p).length≤p.length:=by
 unfold smallF
 split
 ·exact Nat.zero_le _
 ·exact Nat.le_trans (scale_len _ _) (trim_le p)
theorem trim_small (p:List Rat):trimF (smallF p)=smallF p:=by
 unfold smallF
 split
 ·rfl
 ·exact trim_trim _
theorem bq_absQ {M:Nat} {x:Rat} (h:Bq M x):Bq M (absQ x):=by unfold absQ;split;exact h.neg;exact h
theorem absQ_neP {x:Rat} (h:x≠0):absQ x≠0:=by unfold absQ;split;exact fun e=>h (by grind);exact h
theorem small_p (M:Nat) (hM:M≤1099511627000) (vp:Value) (p:List Rat) (hlp:p.length≤1000000) (w:World) (hp:Pl w vp p) (hbp:∀x ∈ p,Bq M x):Calls Tryz.prog 161 #[vp] w fun e w'=>∃v',e=.returned v'∧Pl w' v' (smallF p)∧Ext w w':=by
 have HP:=ZZ hp;have HLP:=ZZ hlp;have HBP:=ZZ hbp;have HM:=ZZ hM;clear hp hlp hbp hM
 go_enter Tryz.func161,Tryz.ntmps161
 go_wp2_with fail;refine(trim_q _ p HLP.out _ HP.out).mono ?_
 rintro e w3 ⟨v3,rfl,h3,k3⟩;obtain⟨A,n,cap,e3,hn⟩:=h3.pl.form;subst e3;have HN:=ZZ hn;have H3:=ZZ h3.pl;have K3:=ZZ k3;have HT:=ZZ (show n≤p.length by rw [←hn];exact trim_le p);clear h3 k3 hn
 rcases Nat.eq_zero_or_pos n with h0|h0
 ·subst h0
  go_wp2_with fail;go_ret
  have e0:trimF p=[]:=List.length_eq_zero_iff.1 HN.out;refine⟨_,rfl,?_,K3.out⟩;rw [show smallF p=[] from if_pos e0,←e0];exact H3.out
 ·obtain⟨k,rfl⟩:∃k,n=k+1:=⟨n - 1,by omega⟩
  have z0:decide ((0:Int)<((k+1:Nat):Int))=true:=decide_eq_true (by omega);have z1:decide ((0:Int)<(k:Int)+1)=true:=decide_eq_true (by omega);have HNE:=ZZ (show trimF p≠[] from fun e=>by have:=HN.out;rw [e] at this;simp at this);have HTOP:=ZZ (top_get HN.out);have HT0:=ZZ (top_trim_ne HNE.out);have BT:=ZZ (HBP.out _ (trim_mem (List.mem_of_getElem? HTOP.out)));have BONE:=ZZ (show Bq 64 (1:Rat) from bq_int 1 (by decide) (by decide));clear h0;go_wp2_with fail;refine(int_q 1 (by decide) (by decide) _).mono ?_;rintro e w4 ⟨v4,rfl,h4,k4⟩;have H4:=ZZ (show Nm w4 v4 1 from h4);have K4:=ZZ k4;clear h4 k4;go_wp2_with fail;have H3':=ZZ (show Pl w4 (.slice A (k+1) cap) (trimF p) from H3.out.mono K4.out);refine(top_q _ (trimF p) (by rw [HN.out];exact Nat.le_trans HT.out HLP.out) k _ HN.out HTOP.out _ H3'.out).mono ?_;rintro e w5 ⟨v5,rfl,h5,k5⟩;have H5:=ZZ h5;have K5:=ZZ k5;clear h5 k5;go_wp2_with fail;refine(abs_q _ (topF (trimF p)) _ H5.out).mono ?_;rintro e w8 ⟨v8,rfl,h8,k8⟩;have H8:=ZZ h8;have K8:=ZZ (am K5.out k8);clear h8 k8;go_wp2_with fail;refine(over_q (M+64) (by have:=HM.out;omega) _ _ 1 (absQ (topF (trimF p))) _ (H4.out.mono K8.out) H8.out (BONE.out.mono (by omega)) ((bq_absQ BT.out).mono (by omega)) (absQ_neP HT0.out)).mono ?_;rintro e w6 ⟨v6,rfl,h6,k6⟩;have H6:=ZZ h6;have K6:=ZZ (am K4.out (am K8.out k6));clear h6 k6;go_wp2_with fail
  refine(scale_q M (by have:=HM.out;omega) _ _ (trimF p) (1 / absQ (topF (trimF p))) (by rw [HN.out];exact Nat.le_trans HT.out HLP.out) _ (H3.out.mono K6.out) H6.out (fun x hx=>HBP.out x (trim_mem hx)) (bq_inv2 (bq_absQ BT.out) (absQ_neP HT0.out))).mono ?_;rintro e w7 ⟨v7,rfl,h7,k7⟩;have H7:=ZZ h7.pl;have K7:=ZZ (am K3.out (am K6.out k7));clear h7 k7;go_wp2_with fail;go_ret;refine⟨_,rfl,?_,K7.out⟩;rw [show smallF p=scaleF (trimF p) (1 / absQ (topF (trimF p))) from if_neg HNE.out];exact H7.out
theorem sturm_c (vp vq:Value) (hp:isSl vp) (hq:isSl vq) (w:World):Calls Tryz.prog 120 #[vp,vq] w fun e w'=>e=.returned (.func (.func 162) #[] #[.pointer (some ⟨w.heap.size+1+1,0,none⟩),.pointer (some ⟨w.heap.size,0,none⟩),.pointer (some ⟨w.heap.size+1,0,none⟩)])∧w'=((w.alloc (.cells #[vp] 22)).alloc (.cells #[vq] 22)).alloc (.cells #[.func (.func 161) #[] #[]] 66):=by
 obtain⟨A,n,c,rfl⟩:=hp;obtain⟨A',n',c',rfl⟩:=hq
 go_enter Tryz.func120,Tryz.ntmps120
 go_wp2_with fail;go_ret
 exact⟨rfl,rfl⟩
def chainU:Nat→List Rat→List Rat→List (List Rat)
 | 0,_,_=>[]
 | n+1,p,q=>if p=[] then [] else if q=[] then [p] else p :: chainU n q (smallF (scaleF (divF p q).2 (-1)))
def chainF (p q:List Rat):List (List Rat):=chainU (p.length+q.length+2) (smallF p) (smallF q)
def chB (M:Nat):Nat→List Rat→List Rat→Bool
 | 0,p,_=>p.isEmpty
 | n+1,p,q=>p.isEmpty || q.isEmpty || (divOk M p q && smB M (divF p q).2 && chB M n q (smallF (scaleF (divF p q).2 (-1))))
def chainOk (M:Nat) (p q:List Rat):Bool:=smB M p && smB M q && chB M (p.length+q.length+2) (smallF p) (smallF q)
theorem div_rest_lt {M:Nat} (n:Nat) (quo rest q:List Rat) (h:divB M n rest q=true):(divU n quo rest q).2.length<q.length:=by
 induction n generalizing quo rest with
 | zero=>exact of_decide_eq_true h
 | succ n ih=>
  unfold divB at h;unfold divU
  by_cases hl:rest.length<q.length
  ·rw [if_pos hl];exact hl
  ·rw [if_neg hl,Bool.and_eq_true] at h
   rw [if_neg hl];exact ih _ _ h.2
theorem divOk_lt {M:Nat} {p q:List Rat} (h:divOk M p q=true):(divF p q).2.length<q.length:=by
 unfold divOk at h;rw [Bool.and_eq_true] at h;exact Nat.lt_of_lt_of_le (div_rest_lt _ _ _ _ h.2) (trim_le q)
def lenOf:Value→Nat | .slice _ n _=>n|_=>0
def ZS (_:Nat) (o:Obj):Prop:=∃cs T f,o=.cells cs T f∧∃c ∈ cs.toList,¬ isSl c
theorem keep_cell {A B:World} (k:KeepZ ZS A B) {b j:Nat} {c:Value} (h:A.cell? ⟨b,j,none⟩=some c) (hc:¬ isSl c):B.heap[b]?=A.heap[b]?:=by
 obtain⟨o,ho,hoc⟩:=cell_block h;refine(k.2 _ o ho hoc ?_).trans ho.symm
 cases o with
 | cells cs T f=>
  refine⟨cs,T,f,rfl,c,?_,hc⟩;unfold World.cell? at h;rw [show A.heap[b]?=some (.cells cs T f) from ho] at h;have h':cs[j]?=some c:=by simpa using h
  rw [Array.mem_toList_iff];exact Array.mem_of_getElem? h'
 | _=>cases hoc
theorem Nm.keepS {A B:World} {v:Value} {q:Rat} (h:Nm A v q) (k:KeepZ ZS A B):Nm B v q:=by
 have key:∀ {vv:Value} {m:Nat},Wd A vv m→Wd B vv m:=by
  intro vv m hw;obtain⟨X,cc,e,hc,hcl⟩:=hw;refine⟨X,cc,e,hc,?_⟩
  rcases Nat.eq_zero_or_pos (dg m).length with h0|h0
  ·left;rw [List.length_eq_zero_iff.1 h0];rfl
  ·obtain⟨bl,o,hA,hce⟩:=hcl.at_ (by simpa using h0)
   right
   refine⟨bl,o,hA,fun j hj=>?_⟩;have hj':j<(dg m).length:=by simpa using hj
   have h1:=hce j hj;rw [getD_map_u64 _ _ hj'] at h1;have hk:=keep_cell k h1 (by rintro⟨_,_,_,e⟩;cases e);exact(World.cell?_of_block (a:=⟨bl,o+j,none⟩) hk).trans (hce j hj)
 obtain⟨vn,vd,e,h1,h2⟩:=h;exact⟨vn,vd,e,key h1,key h2⟩
theorem Pl.keepS {A B:World} {v:Value} {l:List Rat} (h:Pl A v l) (k:KeepZ ZS A B):Pl B v l:=by
 obtain⟨X,cap,e,hc,hA⟩:=h;refine⟨X,cap,e,hc,?_⟩
 rcases hA with h|⟨b,o,e1,ht⟩
 ·exact .inl h
 ·refine .inr ⟨b,o,e1,fun i q hq=>?_⟩
  obtain⟨s,A1,m,ca,B1,n1,cb,h1,h2,h3,h4⟩:=ht i q hq;have hb:=keep_cell k h1 (by rintro⟨_,_,_,e⟩;cases e);exact⟨s,A1,m,ca,B1,n1,cb,(World.cell?_of_block (a:=⟨b,_,none⟩) hb).trans h1,(World.cell?_of_block (a:=⟨b,_,none⟩) hb).trans h2,(World.cell?_of_block (a:=⟨b,_,none⟩) hb).trans h3,h4.keepS k⟩
theorem Pl.cb {A B:World} {v:Value} {l:List Rat} (h:Pl A v l) (k:Cb A B):Pl B v l:=by
 obtain⟨X,cap,e,hc,hA⟩:=h;refine⟨X,cap,e,hc,?_⟩
 rcases hA with h|⟨b,o,e1,ht⟩
 ·exact .inl h
 ·exact .inr ⟨b,o,e1,fun i q hq=>(ht i q hq).cb k⟩
def encC (x:Value × List Rat):Array Value:=#[x.1]
theorem sturm_in (M:Nat) (hM0:0<M) (hM:M≤268435456) (n₁:Nat) (hn:1≤n₁) (l Bf Bp Bz:Nat) (vp vq:Value) (p q:List Rat) (hlp:p.length≤100000) (hlq:q.length≤100000) (hok:chainOk M p q=true) (J:List (Value × List Rat)→World→Prop) (hJE:∀pre A B,J pre A→Ext A B→J pre B) (hY:∀pre x W1,J pre W1→Pl W1 x.1 x.2→pre.length<(chainF p q).length→YieldAt Fence.wide (n₁ - 1) Tryz.prog l (encC x) W1 fun e W'=>e=.returned (.bool true)∧J (pre ++ [x]) W'∧KeepZ ZS W1 W') (W:World) (hp:Pl W vp p) (hq:Pl W vq q) (cf:W.cell? ⟨Bf,0,none⟩=some (.func (.func 161) #[] #[])) (cp:W.cell? ⟨Bp,0,none⟩=some vp) (cz:W.cell? ⟨Bz,0,none⟩=some vq) (h0:J [] W):CallsIn Fence.wide n₁ Tryz.prog 162 #[.func (.yield l) #[] #[],.pointer (some ⟨Bf,0,none⟩),.pointer (some ⟨Bp,0,none⟩),.pointer (some ⟨Bz,0,none⟩)] W fun e W'=>(∃v,e=.returned v)∧∃xs:List (Value × List Rat),(xs.map (fun x=>x.2)=chainF p q∧∀x ∈ xs,Pl W' x.1 x.2)∧J xs W':=by
 obtain⟨A,n,c,rfl,-⟩:=hp.form;obtain⟨A',n',c',rfl,-⟩:=hq.form;unfold chainOk at hok;rw [Bool.and_eq_true,Bool.and_eq_true] at hok;obtain⟨⟨hsp,hsq⟩,hcb⟩:=hok;obtain⟨D,hD⟩:∃D,chainF p q=D:=⟨_,rfl⟩;rw [hD] at hY ⊢;have HD:=ZZ (show chainU (p.length+q.length+2) (smallF p) (smallF q)=D from hD);have HSP:=ZZ (sm_of hsp);have HSQ:=ZZ (sm_of hsq);have HCB:=ZZ hcb;have HLP:=ZZ hlp;have HLQ:=ZZ hlq;have HM0:=ZZ hM0;have HM:=ZZ hM;have HY:=ZZ hY;have HJE:=ZZ hJE;have HJ0:=ZZ h0;have HP:=ZZ hp;have HQ:=ZZ hq;have BN:=ZZ (show Bq 64 (-1:Rat) from bq_int (-1) (by decide) (by decide));have HC:=ZZ (show ∀W',Ext W W'→W'.cell? ⟨Bf,0,none⟩=some (.func (.func 161) #[] #[])∧W'.cell? ⟨Bp,0,none⟩=some (.slice A n c)∧W'.cell? ⟨Bz,0,none⟩=some (.slice A' n' c') from fun W' k=>⟨ar k cf,ar k cp,ar k cz⟩);clear hsp hsq hcb hlp hlq hM0 hM hY hJE h0 hp hq hD cf cp cz;refine callsIn_of_wp Tryz.func162 rfl trivial ?_ rfl
 simp only [Tryz.ntmps162,List.size_toArray,List.length_cons,List.length_nil,Nat.reduceAdd,Nat.reduceSub,Array.replicate_succ,Array.replicate_zero,List.push_toArray,List.append_toArray,List.nil_append,List.cons_append]
 gi_wp2
 refine wpIn_wide.2 ?_;have hun:undef=.tuple #[]:=rfl;refine wp_region_noPanic ?_;refine wp_region_held_drew (S:=fun W=>W.cell? ⟨Bf,0,none⟩=some (.func (.func 161) #[] #[])∧W.cell? ⟨Bp,0,none⟩=some (.slice A n c)∧W.cell? ⟨Bz,0,none⟩=some (.slice A' n' c')) (by kernel_rfl) (HC.out _ (ac _)) (fun hHeld=>?_);refine take_a 0 9 ?_;refine take_a 1 10 ?_;refine take_a 3 12 ?_;refine take_a 4 13 ?_;refine call_p (i:=2) (some 11) rfl rfl (by kernel_rfl) (fun K hK=>?_)
 go_simp
 go_at_call 161
 refine(small_p M (by have:=HM.out;omega) _ p (by have:=HLP.out;omega) _ (HP.out.mono (ac _)) HSP.out).mono ?_;rintro e w4 ⟨v4,rfl,h4,kk4⟩;have H4:=ZZ h4;have hx1:=ZZ (show Ext W w4 from am (ac _) kk4);clear h4 kk4
 try go_wp2_with fail
 refine hK.out _ _ (HC.out _ hx1.out) (fun hHeld=>?_);clear hK K
 try simp only [Act.put,lyA,lyB,lyC]
 refine call_p (i:=5) (some 14) rfl rfl (by kernel_rfl) (fun K hK=>?_)
 go_simp
 go_at_call 161
 refine(small_p M (by have:=HM.out;omega) _ q (by have:=HLQ.out;omega) _ (HQ.out.mono hx1.out) HSQ.out).mono ?_;rintro e w5 ⟨v5,rfl,h5,kk5⟩;have H5:=ZZ h5;have H4b:=ZZ (H4.out.mono kk5);have hx2:=ZZ (am hx1.out kk5);clear h5 kk5
 try go_wp2_with fail
 refine hK.out _ _ (HC.out _ hx2.out) (fun hHeld=>?_);clear hK K
 try simp only [Act.put,lyA,lyB,lyC]
 refine take_a 6 5 ?_;refine take_a 7 6 ?_;refine wpAnyH_done (by kernel_rfl) ?_ _;refine NoPanic.normal ?_;have KW:=ZZ hx2.out;have cf5:=(HC.out w5 hx2.out).1
 gi_wp2
 gi_loopw [5,6] (fun vP vQ wr=>∃(k:Nat) (P Q:List Rat) (pre:List (Value × List Rat)),Hid (P.length≤100000)∧Hid (Q.length≤100000)∧Hid (trimF Q=Q)∧Hid (chB M k P Q=true)∧Hid (pre.map (fun x=>x.2) ++ chainU k P Q=D)∧Hid (∀x ∈ pre,Pl wr x.1 x.2)∧Hid (Pl wr vP P)∧Hid (Pl wr vQ Q)∧Hid (J pre wr)∧wr.cell? ⟨Bf,0,none⟩=some (.func (.func 161) #[] #[])) (fun _ vQ _=>lenOf vQ)
 case atStart=>exact⟨_,smallF p,smallF q,[],ZZ (Nat.le_trans (small_len p) HLP.out),ZZ (Nat.le_trans (small_len q) HLQ.out),ZZ (trim_small q),HCB,HD,ZZ (fun x hx=>by cases hx),H4b,H5,ZZ (HJE.out _ _ _ HJ0.out KW.out),cf5⟩
 case round=>
  obtain⟨k,P,Q,pre,HLP1,HLQ1,HTQ,HB,HU,HPRE,HPP,HPQ,HJ,cf6⟩:=hrel;rename World=>WR;clear cf5 KW H4b H5 hx2 hx1 H4 HJ0 HC HP HQ HD HSP HSQ HCB HLP HLQ;obtain⟨AP,nP,cP,eP,hnP⟩:=HPP.out.form;obtain⟨AQ,nQ,cQ,eQ,hnQ⟩:=HPQ.out.form;subst eP eQ;have HNP:=ZZ hnP;have HNQ:=ZZ hnQ;clear hnP hnQ
  rcases Nat.eq_zero_or_pos nP with hz|hz
  ·subst hz
   have HE:=ZZ (show pre.map (fun x=>x.2)=D from by
    rw [←HU.out,List.length_eq_zero_iff.1 HNP.out]
    cases k <;> exact(List.append_nil _).symm)
   gi_wp2
   go_end0
   exact⟨⟨_,rfl⟩,pre,⟨HE.out,HPRE.out⟩,HJ.out⟩
  ·have hPne:P≠[]:=fun e=>by have:=HNP.out;rw [e] at this;simp at this;omega
   have hPe:P.isEmpty=false:=by cases P with|nil=>exact absurd rfl hPne|cons a l=>rfl
   obtain⟨ko,rfl⟩:∃j,k=j+1:=⟨k - 1,by
    rcases Nat.eq_zero_or_pos k with h|h
    ·subst h
     have h1:P.isEmpty=true:=HB.out;rw [hPe] at h1;cases h1
    ·omega⟩
   have hb2:(P.isEmpty || Q.isEmpty || (divOk M P Q && smB M (divF P Q).2 && chB M ko Q (smallF (scaleF (divF P Q).2 (-1)))))=true:=HB.out;rw [hPe,Bool.false_or] at hb2;have hu2:pre.map (fun x=>x.2) ++ (if P=[] then [] else if Q=[] then [P] else P :: chainU ko Q (smallF (scaleF (divF P Q).2 (-1))))=D:=HU.out;rw [if_neg hPne] at hu2
   have hlen:pre.length<D.length:=by
    rw [←hu2,List.length_append,List.length_map]
    split
    ·rw [List.length_singleton];omega
    ·rw [List.length_cons];omega
   obtain⟨fn,tmps,assign,body,hy,hR⟩:=HY.out pre (.slice AP nP cP,P) _ HJ.out HPP.out hlen;have HB2:=ZZ hb2;have HU2:=ZZ hu2;have HZ:=ZZ hz;have z1:decide ((0:Int)<(nP:Int))=true:=decide_eq_true (by omega);have z1':decide (0<nP)=true:=decide_eq_true hz;clear hPne hPe hb2 hu2 hlen hz
   dsimp only [encC] at hy
   gi_wp2
   refine hR.mono ?_;rintro e W3 ⟨rfl,hJ3,hk3⟩;have HJ3:=ZZ hJ3;have HPP3:=ZZ (HPP.out.keepS hk3);have HPQ3:=ZZ (HPQ.out.keepS hk3)
   have HPRE3:=ZZ (show ∀x ∈ pre ++ [(Value.slice AP nP cP,P)],Pl W3 x.1 x.2 from fun x hx=>by
    rcases List.mem_append.1 hx with hx|hx
    ·exact(HPRE.out x hx).keepS hk3
    ·rw [List.mem_singleton.1 hx];exact HPP3.out)
   have cf5:W3.cell? ⟨Bf,0,none⟩=some (.func (.func 161) #[] #[]):=(World.cell?_of_block (a:=⟨Bf,0,none⟩) (keep_cell hk3 cf6 (by rintro⟨_,_,_,e⟩;cases e))).trans cf6;clear hk3 hJ3 hy hR cf6 HPP HPQ HPRE HJ
   rcases Nat.eq_zero_or_pos nQ with hz|hz
   ·subst hz
    have HE:=ZZ (show (pre ++ [(Value.slice AP nP cP,P)]).map (fun x=>x.2)=D from by
     rw [←HU2.out,if_pos (List.length_eq_zero_iff.1 HNQ.out),List.map_append];rfl)
    gi_wp2
    refine bodyPost_ret (results_none rfl _ _ _) rfl ?_;exact⟨⟨_,rfl⟩,_,⟨HE.out,HPRE3.out⟩,HJ3.out⟩
   ·have hQne:Q≠[]:=fun e=>by have:=HNQ.out;rw [e] at this;simp at this;omega
    have hQe:Q.isEmpty=false:=by cases Q with|nil=>exact absurd rfl hQne|cons a l=>rfl
    have hb3:=HB2.out;rw [hQe,Bool.false_or,Bool.and_eq_true,Bool.and_eq_true] at hb3;have hu3:=HU2.out;rw [if_neg hQne] at hu3;have HB3:=ZZ hb3;have HU3:=ZZ hu3;have HQN:=ZZ (show trimF Q≠[] from by rw [HTQ.out];exact hQne);have HBR:=ZZ (sm_of hb3.1.2)
    have HLT:=ZZ (show (smallF (scaleF (divF P Q).2 (-1))).length<nQ from by
     have h1:=divOk_lt hb3.1.1;have h2:=scale_len (divF P Q).2 (-1);have h3:=small_len (scaleF (divF P Q).2 (-1));have h4:=HNQ.out
     omega)
    have z2:((nQ:Int) == 0)=false:=by rw [beq_eq_false_iff_ne];omega
    have z2':(nQ == 0)=false:=by rw [beq_eq_false_iff_ne];omega
    have z3:nQ≠0:=by omega
    have hdv:=ZZ (divided_p M HM0.out (by have:=HM.out;omega) _ _ P Q HLP1.out HLQ1.out _ HPP3.out HPQ3.out HQN.out hb3.1.1);clear hQne hQe hb3 hu3 hz
    gi_wp2_with (refine⟨trivial,?_⟩;gi_at_call 48;refine(callsIn_wide.2 hdv.out).mono ?_;rintro e w5 ⟨v5,v6,rfl,h5,h6,k5⟩;have HRest:=ZZ h6.pl;have K5:=ZZ k5;clear h5 h6 k5)
    have cf7:=cf5;clear cf5 hdv;have cf5:=ar K5.out cf7;clear cf7;refine wpIn_wide.2 ?_;refine wp_region_noPanic ?_;refine wp_region_held_drew (S:=fun W=>W.cell? ⟨Bf,0,none⟩=some (.func (.func 161) #[] #[])) (by kernel_rfl) (ar (ac _) cf5) (fun hHeld=>?_);refine take_a 0 31 ?_;refine take_a 1 32 ?_;refine take_a 2 33 ?_;refine call_p (i:=3) (some 34) rfl rfl (by kernel_rfl) (fun K hK=>?_)
    go_simp
    go_at_call 11
    refine(int_q (-1) (by decide) (by decide) _).mono ?_;rintro e w6 ⟨v6,rfl,h6,kk6⟩;have H6:=ZZ (show Nm w6 v6 (-1) from h6);have hy1:=ZZ (show Ext w5 w6 from am (ac _) kk6);clear h6 kk6
    try go_wp2_with fail
    refine hK.out _ _ (ar hy1.out cf5) (fun hHeld=>?_);clear hK K
    try simp only [Act.put,lyA,lyB,lyC]
    refine call_p (i:=4) (some 35) rfl rfl (by kernel_rfl) (fun K hK=>?_)
    go_simp
    go_at_call 34
    refine(scale_q (M+64) (by have:=HM.out;omega) _ _ (divF P Q).2 (-1) (by have h1:=(div_len P Q).2;have h2:=HLP1.out;omega) _ (HRest.out.mono hy1.out) H6.out (fun x hx=>(HBR.out x hx).mono (by omega)) (BN.out.mono (by omega))).mono ?_;rintro e w7 ⟨v7,rfl,h7,kk7⟩;have H7:=ZZ h7.pl;have hy2:=ZZ (am hy1.out kk7);clear h7 kk7
    try go_wp2_with fail
    refine hK.out _ _ (ar hy2.out cf5) (fun hHeld=>?_);clear hK K
    try simp only [Act.put,lyA,lyB,lyC]
    refine call_p (i:=5) (some 36) rfl rfl (by kernel_rfl) (fun K hK=>?_)
    go_simp
    go_at_call 161
    refine(small_p (M+64) (by have:=HM.out;omega) _ (scaleF (divF P Q).2 (-1)) (by have h0:=scale_len (divF P Q).2 (-1);have h1:=(div_len P Q).2;have h2:=HLP1.out;omega) _ H7.out (bq_scale HBR.out BN.out)).mono ?_;rintro e w8 ⟨v8,rfl,h8,kk8⟩;have H8:=ZZ h8;have hy3:=ZZ (am hy2.out kk8);clear h8 kk8
    try go_wp2_with fail
    refine hK.out _ _ (ar hy3.out cf5) (fun hHeld=>?_);clear hK K
    try simp only [Act.put,lyA,lyB,lyC]
    refine take_a 6 5 ?_;refine take_a 7 6 ?_;refine wpAnyH_done (by kernel_rfl) ?_ _;refine NoPanic.normal ?_;have E8:=ZZ (am K5.out hy3.out);have cf9:=ar hy3.out cf5;clear cf5
    gi_wp2
    go_roundw
    case rel=>exact⟨ko,Q,smallF (scaleF (divF P Q).2 (-1)),_,HLQ1,ZZ (by have h1:=HLT.out;have h2:=HLQ1.out;have h3:=HNQ.out;omega),ZZ (trim_small _),ZZ HB3.out.2,ZZ (by rw [List.map_append,List.append_assoc];exact HU3.out),ZZ (fun x hx=>(HPRE3.out x hx).mono E8.out),ZZ (HPQ3.out.mono E8.out),H8,ZZ (HJE.out _ _ _ HJ3.out E8.out),cf9⟩
    case measure=>
     obtain⟨A8,n8,c8,e8,hn8⟩:=H8.out.form;rw [e8]
     show n8<nQ
     rw [←hn8];exact HLT.out
end Go.Proofs.YtjamgccgoapbeaaGreatDoor
set_option linter.unusedVariables false
set_option maxRecDepth 100000
set_option maxHeartbeats 64000000
namespace Go.Proofs.YtjamgccgoapbeaaGreatDoor
open Go.RowKit Go.Sort
theorem by1_f (va:Value) (n b:Nat) (w:World) (ha:Wd w va n) (sa:Sm n) (h0:0<b) (hb:b<B64):Calls Tryz.prog 110 #[va,.int .u64 b] w fun e w'=>(∃(k c:Nat) (r:Nat),e=.returned (.tuple #[.slice (some ⟨w.heap.size,0,none⟩) k c,.int .u64 ((r:Nat):Int)])∧r=n % b∧Wd w' (.slice (some ⟨w.heap.size,0,none⟩) k c) (n / b))∧Ext w w'∧w.heap.size<w'.heap.size:=by
 obtain⟨A,ca,rfl,hca,hA⟩:=ha;have la:=dg_lt n;have en:=num_dg n;unfold Sm at sa;generalize dg n=xs at *;obtain⟨p,hp⟩:∃p,xs.length=p:=⟨_,rfl⟩;rw [hp] at hca sa ⊢;have Hp:=ZZ hp;have La:=ZZ la;have En:=ZZ en;have Hb:=ZZ hb;have hmk:=mk_words p (p:Int) rfl (by omega);clear hp la en hb
 go_enter Tryz.func110,Tryz.ntmps110
 go_wp2
 go_loopw [7,8] (fun c i wr=>∃(k rest:Nat) (r:List Nat),k≤p∧i=.int .i64 ((k:Int) - 1)∧c=.int .u64 rest∧rest<b∧r.length=p∧(∀d ∈ r,d<B64)∧BkU wr w.heap.size r∧Below w.heap.size w wr∧num B64 (r.drop k)*b+rest=num B64 (xs.drop k)) (fun _ i _=>(intOf i+1).toNat)
 case atStart=>exact⟨p,0,zs p,Nat.le_refl _,rfl,rfl,h0,zs_length _,zs_lt (by rw [B64_eq];omega) _,BkU.new _ _,ab _ _,by
  rw [List.drop_of_length_le (by rw [zs_length];omega),List.drop_of_length_le (by rw [Hp.out];omega)];simp⟩
 case round=>
  obtain⟨k,rest,r,hk,rfl,rfl,hrest,hr,hrl,hbk,hbel,hnum⟩:=hrel;have Hr:=ZZ hr;have Hrl:=ZZ hrl;have Hbk:Hid (BkU wr w.heap.size r):=hbk;have Hnum:=ZZ hnum;clear hr hrl hbk hnum
  by_cases hz:k=0
  ·subst hz
   have HC:=ZZ Hbk.out.cl;go_wp2_with fail;refine(cut_c _ r _ _ HC.out p Hr.out (by omega) (by omega)).mono ?_;rintro e w2 ⟨rfl,rfl⟩;go_wp2_with fail
   go_ret2
   have h1:=Hnum.out
   simp only [List.drop_zero] at h1
   rw [En.out] at h1
   have h2:n / b=num B64 r∧n % b=rest:=by
    rw [←h1,Nat.mul_comm]
    constructor
    ·rw [Nat.mul_add_div h0,Nat.div_eq_of_lt hrest,Nat.add_zero]
    ·rw [Nat.mul_add_mod,Nat.mod_eq_of_lt hrest]
   refine⟨⟨_,_,rest,rfl,h2.2.symm,?_⟩,hbel,Hbk.out.lt⟩;rw [h2.1];exact cut_w Hrl.out HC.out (by rw [Hr.out];omega)
  ·obtain⟨k,rfl⟩:∃j,k=j+1:=⟨k - 1,by omega⟩
   obtain⟨ba,oa,rfl,hca'⟩:=hA.u (by rw [Hp.out];omega);have ea:=ar hbel (hca' k (by rw [Hp.out];omega));have hxl:=getD_lt La.out (by rw [B64_eq];omega) k;have Hdx:Hid (xs.drop k=xs.getD k 0 :: xs.drop (k+1)):=drop_getD xs k (by rw [Hp.out];omega);clear hca' hA hz;generalize xs.getD k 0=x at *;have Hxl:=ZZ hxl;clear hxl;go_wp2_with fail;refine(div64_c rest x b hrest Hxl.out Hb.out _).mono ?_;rintro e w1 ⟨⟨q,s,rfl,hqs,hs,hq⟩,hext⟩;have hbel1:=hbel.trans (hext.mono hbel.size);have Hbk1:Hid (BkU w1 w.heap.size r):=Hbk.out.ext hext;have hci:=Hbk1.out.cell k (by rw [Hr.out];omega);have hfi:=Hbk1.out.frozen k;have Hset:=ZZ (Hbk1.out.set_ k q);have Hqs:=ZZ hqs;have Hq:=ZZ hq;clear hqs hq ea;go_wp2_with fail
   go_roundw
   case rel=>
    refine⟨k,s,r.set k q,by omega,by simp,rfl,hs,by rw [List.length_set,Hr.out],set_lt Hrl.out Hq.out k,Hset.out,hbel1.setCell (Nat.le_refl _) _,?_⟩;rw [drop_set_self r k q (by rw [Hr.out];omega),Hdx.out,num_cons,num_cons];exact by1_step (c:=0) Hnum.out Hqs.out
   case measure=>simp [intOf]
theorem dg_len_zero' {n:Nat}:(dg n).length=0↔n=0:=dg_len_zero
theorem Wd.grown {w w':World} {A:Option Addr} {k c n:Nat} {row:Option Nat} (h:Wd w (.slice A k c) n) (g:w.grownBy w' row) (hne:∀b o,A=some ⟨b,o,none⟩→some b≠row):Wd w' (.slice A k c) n:=by
 obtain⟨A',c',e,hc,hcl⟩:=h
 cases e
 refine⟨A,c,rfl,hc,?_⟩
 rcases hcl with h0|⟨b,o,hA,hce⟩
 ·exact .inl h0
 ·right
  refine⟨b,o,hA,fun j hj=>?_⟩;exact g.cell (hce j hj) (hne b o hA)
theorem info_str:(Tryz.prog.info? 9).map (fun i=>(i.zero,i.size,i.bytes))=some (some (.string ⟨#[]⟩),1,16):=by kernel_rfl
def PartsR (m k:Nat) (S:List (List UInt8)):Prop:=(k=0→S≠[]∧Lib.decDigits m=S.reverse.flatten)∧(0<k→Lib.decDigits m=Lib.decDigits k ++ S.reverse.flatten)∧k*10 ^ (18*S.length)≤m∧(k=0→S.length≤m)
theorem own_ext {w w':World} {B e size n:Nat} {v:Value} {xs:List Value} (h:w.ownsRow B e size v n xs) (k:Ext w w'):w'.ownsRow B e size v n xs:=by
 obtain⟨h1,h2⟩:=h;refine⟨h1,?_⟩
 rcases h2 with h2|⟨g,cap,cur,a,b,c,d⟩
 ·exact .inl h2
 ·exact .inr ⟨g,cap,cur,a,b,(k.block g (lt_of_block c)).trans c,d⟩
theorem own_lt {w:World} {B e size n:Nat} {v:Value} {xs:List Value} (h:w.ownsRow B e size v n xs) {b:Nat} (hb:v.ownBlock=some b):B≤b∧b<w.heap.size:=by
 obtain⟨h1,h2⟩:=h
 rcases h2 with ⟨rfl,-⟩|⟨g,cap,cur,rfl,h3,h4,-⟩
 ·simp [Value.ownBlock] at hb
 ·simp [Value.ownBlock] at hb
  subst hb;exact⟨h3,lt_of_block h4⟩
theorem app_ok {w wr w2 w3:World} {B n:Nat} {p v':Value} {xs:List Value} {o:Obj} {k2 c2 q:Nat} (hB:w.heap.size=B) (hex:Ext w wr) (hx:Ext wr w2) (hx1:wr.heap.size<w2.heap.size) (hown:wr.ownsRow B 9 1 p n xs) (hg:(w2.alloc o).grownBy w3 p.ownBlock) (hloc:v'.ownBlock=p.ownBlock∨v'.ownBlock=some (w2.alloc o).heap.size) (hq:Wd w2 (.slice (some ⟨wr.heap.size,0,none⟩) k2 c2) q):Wd w3 (.slice (some ⟨wr.heap.size,0,none⟩) k2 c2) q∧(∀b o',(some (⟨wr.heap.size,0,none⟩:Addr))=some ⟨b,o',none⟩→b<w3.heap.size∧some b≠v'.ownBlock)∧Ext w w3:=by
 have hsz:(w2.alloc o).heap.size=w2.heap.size+1:=by simp
 have hne:some wr.heap.size≠p.ownBlock:=fun e=>by have:=(own_lt hown e.symm).2;omega
 refine⟨(hq.mono (ab _ _)).grown hg (fun b o e=>by cases e;exact hne),fun b o' e=>?_,?_⟩
 ·cases e
  refine⟨by have:=hg.size;omega,?_⟩
  rcases hloc with h|h
  ·rw [h];exact hne
  ·rw [h];intro e;have:=Option.some.inj e;omega
 ·refine(am hex (am hx (ab w2 o))).grown hg ?_ (fun k hk=>?_)
  ·have:=hex.size;have:=hx.size;omega
  ·rw [hB];exact(own_lt hown hk).1
theorem str_append (a b:List UInt8):(⟨a.toArray⟩:ByteArray) ++ ⟨b.toArray⟩=⟨(a ++ b).toArray⟩:=by
 apply ByteArray.ext
 simp
theorem intercalate_nil (l:List (List UInt8)):[].intercalate l=l.flatten:=by
 induction l with
 | nil=>rfl
 | cons a l ih=>
  cases l with
  | nil=>simp [List.intercalate]
  | cons b t=>simp [List.intercalate,List.intersperse] at ih ⊢;exact ih
theorem repL (c:Nat):Lib.repeatL [48] c=List.replicate c 48:=by
 induction c with
 | zero=>rfl
 | succ c ih=>rw [Lib.repeatL,ih];rfl
theorem PartsR.start {m:Nat} (hm:0<m):PartsR m m []:=⟨fun h=>by omega,fun _=>by simp,by simp,fun h=>by omega⟩
theorem PartsR.zero {m k:Nat} {S:List (List UInt8)} (h:PartsR m k S) (hk:0<k) (hq:k / 10 ^ 18=0):PartsR m 0 (S ++ [Lib.decDigits (k % 10 ^ 18)]):=by
 have e:k % 10 ^ 18=k:=by have:=Nat.div_add_mod k (10 ^ 18);rw [hq] at this;omega
 have h1:=h.2.2.1
 have h2:S.length+1≤m:=by
  have a:S.length<2 ^ S.length:=Nat.lt_two_pow_self;have b:2 ^ S.length≤10 ^ (18*S.length):=Nat.le_trans (Nat.pow_le_pow_left (by decide) _) (Nat.pow_le_pow_right (by decide) (by omega));have c:1*10 ^ (18*S.length)≤k*10 ^ (18*S.length):=Nat.mul_le_mul_right _ hk;omega
 refine⟨fun _=>⟨by simp,?_⟩,fun h=>by omega,by simp,fun _=>by simpa using h2⟩;rw [e,List.reverse_append,List.reverse_singleton,List.singleton_append,List.flatten_cons];exact h.2.1 hk
theorem PartsR.step {m k:Nat} {S:List (List UInt8)} (h:PartsR m k S) (hk:0<k) (hq:0<k / 10 ^ 18):PartsR m (k / 10 ^ 18) (S ++ [padTo 18 (k % 10 ^ 18)]):=by
 refine⟨fun h=>by omega,fun _=>?_,?_,fun h=>by omega⟩
 ·rw [h.2.1 hk,List.reverse_append,List.reverse_singleton,List.singleton_append,List.flatten_cons,←List.append_assoc,←dec_split 18 _ _ (by decide) hq (Nat.mod_lt _ (Nat.pow_pos (by decide)))]
  congr 2
  have:=Nat.div_add_mod k (10 ^ 18)
  rw [Nat.mul_comm] at this;exact this.symm
 ·have e:k / 10 ^ 18*10 ^ (18*(S ++ [padTo 18 (k % 10 ^ 18)]).length)=(k / 10 ^ 18*10 ^ 18)*10 ^ (18*S.length):=by
   rw [List.length_append,List.length_singleton,Nat.mul_add,Nat.mul_one,Nat.pow_add,Nat.mul_assoc,Nat.mul_comm (10 ^ (18*S.length))]
  rw [e];exact Nat.le_trans (Nat.mul_le_mul_right _ (Nat.div_mul_le_self _ _)) h.2.2.1
theorem PartsR.lt {m k M:Nat} {S:List (List UInt8)} (h:PartsR m k S) (hk:0<k) (hm:m<2 ^ M):S.length<M:=by
 have b:2 ^ S.length≤10 ^ (18*S.length):=Nat.le_trans (Nat.pow_le_pow_left (by decide) _) (Nat.pow_le_pow_right (by decide) (by omega));have c:1*10 ^ (18*S.length)≤k*10 ^ (18*S.length):=Nat.mul_le_mul_right _ hk;have d:2 ^ S.length<2 ^ M:=by have:=h.2.2.1;omega
 exact(Nat.pow_lt_pow_iff_right (by decide)).1 d
theorem len18 (r:Nat) (h:r<10 ^ 18):(Lib.decDigits r).length≤18:=dec_length_le 18 r (by decide) h
theorem row_c (M:Nat) (hM:M≤1099511627776) (va:Value) (m:Nat) (w:World) (ha:Wd w va m) (hm:m<2 ^ M) (htab:Tens w):Calls Tryz.prog 60 #[va] w fun e w'=>e=.returned (.string ⟨(Lib.decDigits m).toArray⟩)∧Ext w w':=by
 have ha0:=ha;obtain⟨A,k,c,rfl⟩:=ha.form';have hlen:=ha.len;have Sm0:=ZZ (sm_of_lt hm (by omega));have HM:=ZZ hM;have Hm:=ZZ hm;have HT:=ZZ htab;have HA:=ZZ ha
 rcases Nat.eq_zero_or_pos m with h0|h0
 ·subst h0
  rw [dg_zero] at hlen;obtain rfl:k=0:=hlen.symm;clear ha ha0 hlen hm hM htab
  go_enter Tryz.func60,Tryz.ntmps60
  go_wp2_with fail;go_ret
  exact⟨by rw [dec_zero];rfl,ae _⟩
 ·have hk0:¬ k=0:=fun e=>by rw [e,dg_len_zero'] at hlen;omega
  have t1:((k:Int) == 0)=false:=by rw [beq_eq_false_iff_ne];omega
  have hsep:∀b o,A=some ⟨b,o,none⟩→b<w.heap.size:=by
   intro b o e;obtain⟨A',c',e',hc,hcl⟩:=ha0
   cases e'
   obtain⟨b',o',hA,hce⟩:=hcl.at_ (by simp;omega);rw [e] at hA
   cases hA
   exact block_lt_of_cell (hce 0 (by simp;omega))
  have HS:=ZZ hsep;have H0:=ZZ h0;clear ha ha0 hlen hm hM htab hk0 hsep;obtain⟨i0,hi,hz0,hz1,hz2⟩:=info_parts info_str
  go_enter Tryz.func60,Tryz.ntmps60
  go_wp2_with fail
  go_loopg [0,3] m (fun k a p wr=>∃(S:List (List UInt8)) (A:Option Addr) (n c:Nat),a=.slice A n c∧Wd wr (.slice A n c) k∧k≤m∧wr.ownsRow w.heap.size 9 1 p S.length (S.map encStr)∧PartsR m k S∧S.length≤M∧(∀b o,A=some ⟨b,o,none⟩→b<wr.heap.size∧some b≠p.ownBlock)∧Ext w wr)
  case atStart=>exact⟨[],A,k,c,rfl,HA.out,Nat.le_refl _,World.ownsRow_nil _ _ _ _,PartsR.start H0.out,Nat.zero_le _,fun b o e=>⟨HS.out b o e,by simp [Value.ownBlock]⟩,ae _⟩
  case round=>
   obtain⟨S,A1,n1,cc1,rfl,hN,hkm,hown,hP,hSM,hsep,hext⟩:=hrel;have HN:=ZZ hN;have HOWN:=ZZ hown;have HP:=ZZ hP;have HSM:=ZZ hSM;have HSEP:=ZZ hsep;have HEX:=ZZ hext;have HKM:=ZZ hkm;have hlen:=hN.len;clear hN hP hSM hsep hext hkm
   rcases Nat.eq_zero_or_pos gk with hz|hz
   ·subst hz
    rw [dg_zero] at hlen;obtain rfl:n1=0:=hlen.symm;obtain⟨hSne,hfin⟩:=HP.out.1 rfl;obtain⟨hl,h2⟩:=hown
    rcases h2 with ⟨-,hn0⟩|⟨g,cap,cur,rfl,hg,hblk,hnc,hcm,hsz,htk⟩
    ·exact absurd (List.length_eq_zero_iff.1 hn0) hSne
    ·have hHolds:Holds encStr wr g 0 S.toArray:=by
      intro j hj;have hj':j<S.length:=by simpa using hj
      refine⟨?_,frozen_of_row _ _ _ _ _ hblk⟩;rw [cell_of_row _ _ _ _ _ _ hblk];have h3:(cur.toList.take (S.length*1))[j]?=some (encStr S[j]):=by rw [htk];simp [hj']
      rw [List.getElem?_take_of_lt (by omega)] at h3
      simp only [Nat.zero_add]
      rw [←Array.getElem?_toList,h3]
      simp [hj']
     have hrev:=Tryz.slices_Reverse_string g 0 cap S wr hHolds (by unfold maxLen at hcm;omega);have HREV:=ZZ hrev;have HH:=ZZ hHolds;have HFIN:=ZZ hfin;have HG:=ZZ hg;have HNC:=ZZ hnc;have HB:=ZZ (lt_of_block hblk);have HCM:=ZZ hcm;clear hlen hSne hfin hl hg hblk hnc hcm hsz htk hHolds hrev;go_wp2_with fail;refine HREV.out.mono ?_;rintro e w1 ⟨rfl,q,rfl⟩;have hb1:Ext w (putRow encStr (Sort.ahead wr q) g 0 S.reverse.toArray):=Lib.below_putRow HEX.out HG.out;have HB1:=ZZ hb1
     have hcells:∀(j:Nat) x,((S.reverse.map fun l=>(⟨l.toArray⟩:ByteArray))[j]?)=some x→(putRow encStr (Sort.ahead wr q) g 0 S.reverse.toArray).cell? ⟨g,0+j,none⟩=some (.string x):=by
      intro j x hx
      have hj:j<S.reverse.length:=by
       rcases Nat.lt_or_ge j S.reverse.length with h|h
       ·exact h
       ·rw [List.getElem?_eq_none (by simpa using h)] at hx;cases hx
      have hH2:Holds encStr (Sort.ahead wr q) g 0 S.toArray:=HH.out;rw [cell?_putRow encStr (Sort.ahead wr q) g 0 S.toArray S.reverse.toArray hH2 (by simp) j (by simpa using hj)];rw [List.getElem?_map,List.getElem?_eq_getElem hj] at hx
      simp only [Option.map_some,Option.some.injEq] at hx
      rw [←hx,getElem!_pos _ _ (by simpa using hj)]
      simp [encStr]
     have hgl:g<(putRow encStr (Sort.ahead wr q) g 0 S.reverse.toArray).heap.size:=by
      have h5:=HB.out
      simpa [putRow,mapBlock,Sort.ahead] using h5
     have hjn:(Lib.join ((S.reverse.map fun l=>(⟨l.toArray⟩:ByteArray)).map (·.data.toList)) (ByteArray.mk #[]).data.toList)=S.reverse.flatten:=by
      have e1:(S.reverse.map fun l=>(⟨l.toArray⟩:ByteArray)).map (·.data.toList)=S.reverse:=by
       rw [List.map_map];exact(List.map_congr_left (fun a _=>by simp)).trans (List.map_id _)
      rw [e1]
      show [].intercalate S.reverse=_
      exact intercalate_nil _
     have hdl:(Lib.decDigits m).length≤M+1:=dec_length_le (M+1) m (by omega) (by
      have h6:=Hm.out;have h7:2 ^ M≤10 ^ M:=Nat.pow_le_pow_left (by decide) _;have h8:10 ^ M≤10 ^ (M+1):=Nat.pow_le_pow_right (by decide) (by omega)
      omega)
     have hM:=HM.out;have hSM:=HSM.out;have hJ:=Tryz.strings_Join g 0 cap (S.reverse.map fun l=>(⟨l.toArray⟩:ByteArray)) ⟨#[]⟩ _ hcells hgl (by simp;omega) (by simpa using HNC.out) (by rw [hjn,←HFIN.out];omega);rw [hjn,←HFIN.out] at hJ;have hlr:(S.reverse.map fun l=>(⟨l.toArray⟩:ByteArray)).length=S.length:=by simp
     rw [hlr] at hJ;have HJ:=ZZ hJ;clear hcells hgl hjn hdl hM hSM hJ hb1 hlr;go_wp2_with fail;refine HJ.out.mono ?_;rintro e w2 ⟨rfl,h9⟩;have H9:=ZZ h9;clear h9;go_wp2_with fail;go_ret;exact⟨rfl,am HB1.out H9.out⟩
   ·have hn1:0<n1:=by
     rcases Nat.eq_zero_or_pos n1 with h|h
     ·rw [h] at hlen;have:=dg_len_zero.1 hlen;omega
     ·exact h
    have t4:(0:Int)<(n1:Int):=by omega
    have HZ0:=ZZ hz;have Sk:=ZZ (sm_lt HKM.out Sm0.out);clear hz hlen hn1 hown;go_wp2_with fail;refine(by1_f _ gk 1000000000000000000 wr HN.out Sk.out (by decide) (by decide)).mono ?_;rintro e w1 ⟨⟨k2,c2,r,rfl,hr,hq⟩,hx1,hf1⟩;have HR:=ZZ hr;have HQ:=ZZ hq;have HX1:=ZZ hx1;have HF1:=ZZ hf1;clear hf1;have hrl:r<1000000000000000000:=by rw [hr];exact Nat.mod_lt _ (by decide)
    have HRL:=ZZ hrl;clear hr hq hx1 hrl;go_wp2_with fail;refine(fmt_c r (by have:=HRL.out;omega) w1 (HT.out.mono (am HEX.out HX1.out))).mono ?_;rintro e w2 ⟨rfl,hx2⟩;have HX2:=ZZ hx2;clear hx2
    rcases Nat.eq_zero_or_pos (gk / 1000000000000000000) with hq0|hq0
    ·have hk2:=HQ.out.len
     rw [hq0,dg_zero] at hk2;obtain rfl:k2=0:=hk2.symm;have HQ0:=ZZ hq0;clear hq0 hk2
     have hfresh:wr.heap.size<w2.heap.size:=by
      have h1:=HF1.out;have h2:=HX2.out.size;omega
     have hxx:=am HX1.out HX2.out;have hx1s:=HX1.out.size;have hx2s:=HX2.out.size;have hown2:=own_ext HOWN.out hxx;have HO2:=ZZ hown2;have HXX:=ZZ hxx;have hsm:=HSM.out;have hMM:=HM.out;have hws:=ZZ (show w.heap.size≤w2.heap.size+1 by have:=HEX.out.size;omega);have hpl:=HP.out.lt HZ0.out Hm.out;have h63:S.length+1≤maxLen:=by unfold maxLen;omega
     have hby:(S.length+1)*16≤140737488355328:=by omega
     have hlt12:=ZZ hfresh;have HPL:=ZZ hpl;have H63:=ZZ h63
     have HBY:=ZZ hby
     clear hxx hown2 hsm hMM hpl h63 hby hx1s hx2s hfresh
     go_wp2_with (at_builtin;refine wpList_append_own_at _ rfl _ _ 139 rfl w.heap.size 9 i0 (.string ⟨#[]⟩) 1 16 Tryz.underlying139 hi hz0 hz1 hz2 rfl (by decide) _ _ _ rfl (HO2.out.alloc _) ⟨w2.heap.size,0,none⟩ 1 1 [encStr (Lib.decDigits r)] rfl rfl (cell_one_new _ _ _) (by intro u hu;simp at hu;subst hu;rfl) H63.out HBY.out (by simpa using hws.out) ?_;intro v' w3 hown3 hgrow hnil hloc)
     obtain⟨hA3,hS3,hE3⟩:=app_ok rfl HEX.out HXX.out hlt12.out HOWN.out hgrow hloc (HQ.out.mono HX2.out);have HA3:=ZZ hA3;have HS3:=ZZ hS3;have HE3:=ZZ hE3;have HO3:=ZZ hown3;clear hA3 hS3 hE3 hown3 hgrow hnil hloc;go_wp2_with fail
     go_roundg (gk / 1000000000000000000)
     case measure=>exact Nat.div_lt_self HZ0.out (by decide)
     case rel=>exact⟨S ++ [(Lib.decDigits r)],_,_,_,rfl,HA3.out,Nat.le_trans (Nat.div_le_self _ _) HKM.out,by rw [List.map_append,List.length_append];exact HO3.out,by rw [HQ0.out,HR.out];exact HP.out.zero HZ0.out HQ0.out,by rw [List.length_append];have:=HPL.out;simp;omega,HS3.out,HE3.out⟩
    ·have hk2:=HQ.out.len
     have hk3:0<k2:=by
      rcases Nat.eq_zero_or_pos k2 with h|h
      ·rw [h] at hk2;have:=dg_len_zero.1 hk2;omega
      ·exact h
     have t5:(0:Int)<(k2:Int):=by omega
     have HQ0:=ZZ hq0;clear hq0 hk2 hk3;have h18:=len18 r HRL.out;have HL18:=ZZ h18;obtain⟨cc,hcc⟩:∃cc:Nat,cc=18 - (Lib.decDigits r).length:=⟨_,rfl⟩;have u7:IntKind.i64.wrap (18 - ((Lib.decDigits r).length:Int))=(cc:Int):=(IntWalk.i64_in _ (by omega)).trans (by omega);have u8:(18 - ((Lib.decDigits r).length:Int))=(cc:Int):=by omega
     have HCC:=ZZ hcc;clear hcc h18;go_wp2_with fail;refine(Tryz.strings_Repeat ⟨#[48]⟩ cc w2 (by have:=HCC.out;omega) (by have:=HCC.out;show 1*cc≤_;omega)).mono ?_;rintro e w4 ⟨rfl,hx4⟩;have HX4:=ZZ hx4;clear hx4
     have hst:(⟨(Lib.repeatL [48] cc).toArray⟩:ByteArray) ++ ⟨(Lib.decDigits r).toArray⟩=⟨(padTo 18 r).toArray⟩:=by
      rw [str_append,repL,HCC.out];rfl
     have hcat:(Lib.repeatL [48] cc).length+(Lib.decDigits r).length≤9223372036854775807:=by
      rw [repL]
      have:=HL18.out
      have:=HCC.out
      simp;omega
     have hcat2:((Lib.repeatL [48] cc).length:Int)+((Lib.decDigits r).length:Int)≤9223372036854775807:=by omega
     have hfresh:wr.heap.size<w4.heap.size:=by
      have h1:=HF1.out;have h2:=HX2.out.size;have h3:=HX4.out.size;omega
     have hxx:=am HX1.out (am HX2.out HX4.out);have hx1s:=HX1.out.size;have hx2s:=HX2.out.size;have hx4s:=HX4.out.size;have hown2:=own_ext HOWN.out hxx;have HO2:=ZZ hown2;have HXX:=ZZ hxx;have hsm:=HSM.out;have hMM:=HM.out;have hws:=ZZ (show w.heap.size≤w4.heap.size+1 by have:=HEX.out.size;omega);have hpl:=HP.out.lt HZ0.out Hm.out;have h63:S.length+1≤maxLen:=by unfold maxLen;omega
     have hby:(S.length+1)*16≤140737488355328:=by omega
     have hlt12:=ZZ hfresh;have HPL:=ZZ hpl;have H63:=ZZ h63
     have HBY:=ZZ hby
     clear hxx hown2 hsm hMM hpl h63 hby hx1s hx2s hx4s hfresh
     go_wp2_with (at_builtin;refine wpList_append_own_at _ rfl _ _ 139 rfl w.heap.size 9 i0 (.string ⟨#[]⟩) 1 16 Tryz.underlying139 hi hz0 hz1 hz2 rfl (by decide) _ _ _ rfl (HO2.out.alloc _) ⟨w4.heap.size,0,none⟩ 1 1 [encStr (padTo 18 r)] rfl rfl (cell_one_new _ _ _) (by intro u hu;simp at hu;subst hu;rfl) H63.out HBY.out (by simpa using hws.out) ?_;intro v' w3 hown3 hgrow hnil hloc)
     obtain⟨hA3,hS3,hE3⟩:=app_ok rfl HEX.out HXX.out hlt12.out HOWN.out hgrow hloc (HQ.out.mono (am HX2.out HX4.out));have HA3:=ZZ hA3;have HS3:=ZZ hS3;have HE3:=ZZ hE3;have HO3:=ZZ hown3;clear hA3 hS3 hE3 hown3 hgrow hnil hloc;go_wp2_with fail
     go_roundg (gk / 1000000000000000000)
     case measure=>exact Nat.div_lt_self HZ0.out (by decide)
     case rel=>exact⟨S ++ [(padTo 18 r)],_,_,_,rfl,HA3.out,Nat.le_trans (Nat.div_le_self _ _) HKM.out,by rw [List.map_append,List.length_append];exact HO3.out,by rw [HR.out];exact HP.out.step HZ0.out HQ0.out,by rw [List.length_append];have:=HPL.out;simp;omega,HS3.out,HE3.out⟩
end Go.Proofs.YtjamgccgoapbeaaGreatDoor
