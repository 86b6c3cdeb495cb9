/- Sturm's chain. Printed by gen_yd.py. Sturm's chain as a list. Printed by gen_ye.py. -/
import Derived.Test.YtaaoleakkaloeaaGreatDoorGYb
import Derived.Laws.EntriesVeiled
set_option linter.unusedVariables false
set_option maxRecDepth 100000
set_option maxHeartbeats 64000000
namespace Go.Proofs.YtaaoleakkaloeaaGreatDoor
open Go Go.RowKit Go.Shelf
set_option linter.unusedSimpArgs false
attribute [local go_sem] Oper.semAt_some
def smallF (p:List Rat):List Rat:=if trimF p=[] then [] else scaleF (trimF p) (1 / absQ (topF (trimF p)))
theorem small_len (p:List Rat):(smallF p).length≤p.length:=by
 unfold smallF
 split
 ·exact Nat.zero_le _
 ·exact Nat.le_trans (scale_len _ _) (trim_le p)
theorem trim_small (p:List Rat):trimF (smallF p)=smallF p:=by
 unfold smallF
 split
 ·rfl
 ·exact trim_trim _
theorem bq_absQ {M:Nat} {x:Rat} (h:Bq M x):Bq M (absQ x):=by unfold absQ;split;exact h.neg;exact h
theorem absQ_neP {x:Rat} (h:x≠0):absQ x≠0:=by unfold absQ;split;exact fun e=>h (by grind);exact h
theorem small_p (M:Nat) (hM:M≤1099511627000) (vp:Value) (p:List Rat) (hlp:p.length≤1000000) (w:World) (hp:Pl w vp p) (hbp:∀x ∈ p,Bq M x):Calls Tryz.prog 117 #[vp] w fun e w'=>∃v',e=.returned v'∧Pl w' v' (smallF p)∧Ext w w':=by
 have HP:=ZZ hp;have HLP:=ZZ hlp;have HBP:=ZZ hbp;have HM:=ZZ hM;clear hp hlp hbp hM
 go_enter Tryz.func117,Tryz.ntmps117
 go_wp2_with fail;refine(trim_q _ p HLP.out _ HP.out).mono ?_
 rintro e w3 ⟨v3,rfl,h3,k3⟩;obtain⟨A,n,cap,e3,hn⟩:=h3.pl.form;subst e3;have HN:=ZZ hn;have H3:=ZZ h3.pl;have K3:=ZZ k3;have HT:=ZZ (show n≤p.length by rw [←hn];exact trim_le p);clear h3 k3 hn
 rcases Nat.eq_zero_or_pos n with h0|h0
 ·subst h0
  go_wp2_with fail;go_ret
  have e0:trimF p=[]:=List.length_eq_zero_iff.1 HN.out;refine⟨_,rfl,?_,K3.out⟩;rw [show smallF p=[] from if_pos e0,←e0];exact H3.out
 ·obtain⟨k,rfl⟩:∃k,n=k+1:=⟨n - 1,by omega⟩
  have z0:decide ((0:Int)<((k+1:Nat):Int))=true:=decide_eq_true (by omega);have z1:decide ((0:Int)<(k:Int)+1)=true:=decide_eq_true (by omega);have HNE:=ZZ (show trimF p≠[] from fun e=>by have:=HN.out;rw [e] at this;simp at this);have HTOP:=ZZ (top_get HN.out);have HT0:=ZZ (top_trim_ne HNE.out);have BT:=ZZ (HBP.out _ (trim_mem (List.mem_of_getElem? HTOP.out)));have BONE:=ZZ (show Bq 64 (1:Rat) from bq_int 1 (by decide) (by decide));clear h0;go_wp2_with fail;refine(int_q 1 (by decide) (by decide) _).mono ?_;rintro e w4 ⟨v4,rfl,h4,k4⟩;have H4:=ZZ (show Nm w4 v4 1 from h4);have K4:=ZZ k4;clear h4 k4;go_wp2_with fail;have H3':=ZZ (show Pl w4 (.slice A (k+1) cap) (trimF p) from H3.out.mono K4.out);refine(top_q _ (trimF p) (by rw [HN.out];exact Nat.le_trans HT.out HLP.out) k _ HN.out HTOP.out _ H3'.out).mono ?_;rintro e w5 ⟨v5,rfl,h5,k5⟩;have H5:=ZZ h5;have K5:=ZZ k5;clear h5 k5;go_wp2_with fail;refine(abs_q _ (topF (trimF p)) _ H5.out).mono ?_;rintro e w8 ⟨v8,rfl,h8,k8⟩;have H8:=ZZ h8;have K8:=ZZ (al K5.out k8);clear h8 k8;go_wp2_with fail;refine(over_q (M+64) (by have:=HM.out;omega) _ _ 1 (absQ (topF (trimF p))) _ (H4.out.mono K8.out) H8.out (BONE.out.mono (by omega)) ((bq_absQ BT.out).mono (by omega)) (absQ_neP HT0.out)).mono ?_;rintro e w6 ⟨v6,rfl,h6,k6⟩;have H6:=ZZ h6;have K6:=ZZ (al K4.out (al K8.out k6));clear h6 k6;go_wp2_with fail
  refine(scale_q M (by have:=HM.out;omega) _ _ (trimF p) (1 / absQ (topF (trimF p))) (by rw [HN.out];exact Nat.le_trans HT.out HLP.out) _ (H3.out.mono K6.out) H6.out (fun x hx=>HBP.out x (trim_mem hx)) (bq_inv2 (bq_absQ BT.out) (absQ_neP HT0.out))).mono ?_;rintro e w7 ⟨v7,rfl,h7,k7⟩;have H7:=ZZ h7.pl;have K7:=ZZ (al K3.out (al K6.out k7));clear h7 k7;go_wp2_with fail;go_ret;refine⟨_,rfl,?_,K7.out⟩;rw [show smallF p=scaleF (trimF p) (1 / absQ (topF (trimF p))) from if_neg HNE.out];exact H7.out
theorem sturm_c (vp vq:Value) (hp:isSl vp) (hq:isSl vq) (w:World):Calls Tryz.prog 81 #[vp,vq] w fun e w'=>e=.returned (.func (.func 118) #[] #[.pointer (some ⟨w.heap.size+1+1,0,none⟩),.pointer (some ⟨w.heap.size,0,none⟩),.pointer (some ⟨w.heap.size+1,0,none⟩)])∧w'=((w.alloc (.cells #[vp] 25)).alloc (.cells #[vq] 25)).alloc (.cells #[.func (.func 117) #[] #[]] 29):=by
 obtain⟨A,n,c,rfl⟩:=hp;obtain⟨A',n',c',rfl⟩:=hq
 go_enter Tryz.func81,Tryz.ntmps81
 go_wp2_with fail;go_ret
 exact⟨rfl,rfl⟩
def chainU:Nat→List Rat→List Rat→List (List Rat)
 | 0,_,_=>[]
 | n+1,p,q=>if p=[] then [] else if q=[] then [p] else p :: chainU n q (smallF (scaleF (divF p q).2 (-1)))
def chainF (p q:List Rat):List (List Rat):=chainU (p.length+q.length+2) (smallF p) (smallF q)
def chB (M:Nat):Nat→List Rat→List Rat→Bool
 | 0,p,_=>p.isEmpty
 | n+1,p,q=>p.isEmpty || q.isEmpty || (divOk M p q && smB M (divF p q).2 && chB M n q (smallF (scaleF (divF p q).2 (-1))))
def chainOk (M:Nat) (p q:List Rat):Bool:=smB M p && smB M q && chB M (p.length+q.length+2) (smallF p) (smallF q)
theorem div_rest_lt {M:Nat} (n:Nat) (quo rest q:List Rat) (h:divB M n rest q=true):(divU n quo rest q).2.length<q.length:=by
 induction n generalizing quo rest with
 | zero=>exact of_decide_eq_true h
 | succ n ih=>
  unfold divB at h;unfold divU
  by_cases hl:rest.length<q.length
  ·rw [if_pos hl];exact hl
  ·rw [if_neg hl,Bool.and_eq_true] at h
   rw [if_neg hl];exact ih _ _ h.2
theorem divOk_lt {M:Nat} {p q:List Rat} (h:divOk M p q=true):(divF p q).2.length<q.length:=by
 unfold divOk at h;rw [Bool.and_eq_true] at h;exact Nat.lt_of_lt_of_le (div_rest_lt _ _ _ _ h.2) (trim_le q)
def lenOf:Value→Nat | .slice _ n _=>n|_=>0
def ZS (_:Nat) (o:Obj):Prop:=∃cs T f,o=.cells cs T f∧∃c ∈ cs.toList,¬ isSl c
theorem keep_cell {A B:World} (k:KeepZ ZS A B) {b j:Nat} {c:Value} (h:A.cell? ⟨b,j,none⟩=some c) (hc:¬ isSl c):B.heap[b]?=A.heap[b]?:=by
 obtain⟨o,ho,hoc⟩:=cell_block h;refine(k.2 _ o ho hoc ?_).trans ho.symm
 cases o with
 | cells cs T f=>
  refine⟨cs,T,f,rfl,c,?_,hc⟩;unfold World.cell? at h;rw [show A.heap[b]?=some (.cells cs T f) from ho] at h;have h':cs[j]?=some c:=by simpa using h
  rw [Array.mem_toList_iff];exact Array.mem_of_getElem? h'
 | _=>cases hoc
theorem Nm.keepS {A B:World} {v:Value} {q:Rat} (h:Nm A v q) (k:KeepZ ZS A B):Nm B v q:=by
 have key:∀ {vv:Value} {m:Nat},Wd A vv m→Wd B vv m:=by
  intro vv m hw;obtain⟨X,cc,e,hc,hcl⟩:=hw;refine⟨X,cc,e,hc,?_⟩
  rcases Nat.eq_zero_or_pos (dg m).length with h0|h0
  ·left;rw [List.length_eq_zero_iff.1 h0];rfl
  ·obtain⟨bl,o,hA,hce⟩:=hcl.at_ (by simpa using h0)
   right
   refine⟨bl,o,hA,fun j hj=>?_⟩;have hj':j<(dg m).length:=by simpa using hj
   have h1:=hce j hj;rw [getD_map_u64 _ _ hj'] at h1;have hk:=keep_cell k h1 (by rintro⟨_,_,_,e⟩;cases e);exact(World.cell?_of_block (a:=⟨bl,o+j,none⟩) hk).trans (hce j hj)
 obtain⟨vn,vd,e,h1,h2⟩:=h;exact⟨vn,vd,e,key h1,key h2⟩
theorem Pl.keepS {A B:World} {v:Value} {l:List Rat} (h:Pl A v l) (k:KeepZ ZS A B):Pl B v l:=by
 obtain⟨X,cap,e,hc,hA⟩:=h;refine⟨X,cap,e,hc,?_⟩
 rcases hA with h|⟨b,o,e1,ht⟩
 ·exact .inl h
 ·refine .inr ⟨b,o,e1,fun i q hq=>?_⟩
  obtain⟨s,A1,m,ca,B1,n1,cb,h1,h2,h3,h4⟩:=ht i q hq;have hb:=keep_cell k h1 (by rintro⟨_,_,_,e⟩;cases e);exact⟨s,A1,m,ca,B1,n1,cb,(World.cell?_of_block (a:=⟨b,_,none⟩) hb).trans h1,(World.cell?_of_block (a:=⟨b,_,none⟩) hb).trans h2,(World.cell?_of_block (a:=⟨b,_,none⟩) hb).trans h3,h4.keepS k⟩
theorem Pl.cb {A B:World} {v:Value} {l:List Rat} (h:Pl A v l) (k:Cb A B):Pl B v l:=by
 obtain⟨X,cap,e,hc,hA⟩:=h;refine⟨X,cap,e,hc,?_⟩
 rcases hA with h|⟨b,o,e1,ht⟩
 ·exact .inl h
 ·exact .inr ⟨b,o,e1,fun i q hq=>(ht i q hq).cb k⟩
def encC (x:Value × List Rat):Array Value:=#[x.1]
theorem sturm_in (M:Nat) (hM0:0<M) (hM:M≤4294967296) (n₁:Nat) (hn:1≤n₁) (l Bf Bp Bz:Nat) (vp vq:Value) (p q:List Rat) (hlp:p.length≤100000) (hlq:q.length≤100000) (hok:chainOk M p q=true) (J:List (Value × List Rat)→World→Prop) (hJE:∀pre A B,J pre A→Ext A B→J pre B) (hY:∀pre x W1,J pre W1→Pl W1 x.1 x.2→pre.length<(chainF p q).length→YieldAt Fence.wide (n₁ - 1) Tryz.prog l (encC x) W1 fun e W'=>e=.returned (.bool true)∧J (pre ++ [x]) W'∧KeepZ ZS W1 W') (W:World) (hp:Pl W vp p) (hq:Pl W vq q) (cf:W.cell? ⟨Bf,0,none⟩=some (.func (.func 117) #[] #[])) (cp:W.cell? ⟨Bp,0,none⟩=some vp) (cz:W.cell? ⟨Bz,0,none⟩=some vq) (h0:J [] W):CallsIn Fence.wide n₁ Tryz.prog 118 #[.func (.yield l) #[] #[],.pointer (some ⟨Bf,0,none⟩),.pointer (some ⟨Bp,0,none⟩),.pointer (some ⟨Bz,0,none⟩)] W fun e W'=>(∃v,e=.returned v)∧∃xs:List (Value × List Rat),(xs.map (fun x=>x.2)=chainF p q∧∀x ∈ xs,Pl W' x.1 x.2)∧J xs W':=by
 obtain⟨A,n,c,rfl,-⟩:=hp.form;obtain⟨A',n',c',rfl,-⟩:=hq.form;unfold chainOk at hok;rw [Bool.and_eq_true,Bool.and_eq_true] at hok;obtain⟨⟨hsp,hsq⟩,hcb⟩:=hok;obtain⟨D,hD⟩:∃D,chainF p q=D:=⟨_,rfl⟩;rw [hD] at hY ⊢;have HD:=ZZ (show chainU (p.length+q.length+2) (smallF p) (smallF q)=D from hD);have HSP:=ZZ (sm_of hsp);have HSQ:=ZZ (sm_of hsq);have HCB:=ZZ hcb;have HLP:=ZZ hlp;have HLQ:=ZZ hlq;have HM0:=ZZ hM0;have HM:=ZZ hM;have HY:=ZZ hY;have HJE:=ZZ hJE;have HJ0:=ZZ h0;have HP:=ZZ hp;have HQ:=ZZ hq;have BN:=ZZ (show Bq 64 (-1:Rat) from bq_int (-1) (by decide) (by decide));have HC:=ZZ (show ∀W',Ext W W'→W'.cell? ⟨Bf,0,none⟩=some (.func (.func 117) #[] #[])∧W'.cell? ⟨Bp,0,none⟩=some (.slice A n c)∧W'.cell? ⟨Bz,0,none⟩=some (.slice A' n' c') from fun W' k=>⟨ao k cf,ao k cp,ao k cz⟩);clear hsp hsq hcb hlp hlq hM0 hM hY hJE h0 hp hq hD cf cp cz;refine callsIn_of_wp Tryz.func118 rfl trivial ?_ rfl
 simp only [Tryz.ntmps118,List.size_toArray,List.length_cons,List.length_nil,Nat.reduceAdd,Nat.reduceSub,Array.replicate_succ,Array.replicate_zero,List.push_toArray,List.append_toArray,List.nil_append,List.cons_append]
 gi_wp2
 refine wpIn_wide.2 ?_;have hun:undef=.tuple #[]:=rfl;refine wp_region_noPanic ?_;refine wp_region_held_drew (S:=fun W=>W.cell? ⟨Bf,0,none⟩=some (.func (.func 117) #[] #[])∧W.cell? ⟨Bp,0,none⟩=some (.slice A n c)∧W.cell? ⟨Bz,0,none⟩=some (.slice A' n' c')) (by kernel_rfl) (HC.out _ (ae _)) (fun hHeld=>?_);refine take_a 0 9 ?_;refine take_a 1 10 ?_;refine take_a 3 12 ?_;refine take_a 4 13 ?_;refine call_p (i:=2) (some 11) rfl rfl (by kernel_rfl) (fun K hK=>?_)
 go_simp
 go_at_call 117
 refine(small_p M (by have:=HM.out;omega) _ p (by have:=HLP.out;omega) _ (HP.out.mono (ae _)) HSP.out).mono ?_;rintro e w4 ⟨v4,rfl,h4,kk4⟩;have H4:=ZZ h4;have hx1:=ZZ (show Ext W w4 from al (ae _) kk4);clear h4 kk4
 try go_wp2_with fail
 refine hK.out _ _ (HC.out _ hx1.out) (fun hHeld=>?_);clear hK K
 try simp only [Act.put,lyA,lyB,lyC]
 refine call_p (i:=5) (some 14) rfl rfl (by kernel_rfl) (fun K hK=>?_)
 go_simp
 go_at_call 117
 refine(small_p M (by have:=HM.out;omega) _ q (by have:=HLQ.out;omega) _ (HQ.out.mono hx1.out) HSQ.out).mono ?_;rintro e w5 ⟨v5,rfl,h5,kk5⟩;have H5:=ZZ h5;have H4b:=ZZ (H4.out.mono kk5);have hx2:=ZZ (al hx1.out kk5);clear h5 kk5
 try go_wp2_with fail
 refine hK.out _ _ (HC.out _ hx2.out) (fun hHeld=>?_);clear hK K
 try simp only [Act.put,lyA,lyB,lyC]
 refine take_a 6 5 ?_;refine take_a 7 6 ?_;refine wpAnyH_done (by kernel_rfl) ?_ _;refine NoPanic.normal ?_;have KW:=ZZ hx2.out;have cf5:=(HC.out w5 hx2.out).1
 gi_wp2
 gi_loopw [5,6] (fun vP vQ wr=>∃(k:Nat) (P Q:List Rat) (pre:List (Value × List Rat)),Hid (P.length≤100000)∧Hid (Q.length≤100000)∧Hid (trimF Q=Q)∧Hid (chB M k P Q=true)∧Hid (pre.map (fun x=>x.2) ++ chainU k P Q=D)∧Hid (∀x ∈ pre,Pl wr x.1 x.2)∧Hid (Pl wr vP P)∧Hid (Pl wr vQ Q)∧Hid (J pre wr)∧wr.cell? ⟨Bf,0,none⟩=some (.func (.func 117) #[] #[])) (fun _ vQ _=>lenOf vQ)
 case atStart=>exact⟨_,smallF p,smallF q,[],ZZ (Nat.le_trans (small_len p) HLP.out),ZZ (Nat.le_trans (small_len q) HLQ.out),ZZ (trim_small q),HCB,HD,ZZ (fun x hx=>by cases hx),H4b,H5,ZZ (HJE.out _ _ _ HJ0.out KW.out),cf5⟩
 case round=>
  obtain⟨k,P,Q,pre,HLP1,HLQ1,HTQ,HB,HU,HPRE,HPP,HPQ,HJ,cf6⟩:=hrel;rename World=>WR;clear cf5 KW H4b H5 hx2 hx1 H4 HJ0 HC HP HQ HD HSP HSQ HCB HLP HLQ;obtain⟨AP,nP,cP,eP,hnP⟩:=HPP.out.form;obtain⟨AQ,nQ,cQ,eQ,hnQ⟩:=HPQ.out.form;subst eP eQ;have HNP:=ZZ hnP;have HNQ:=ZZ hnQ;clear hnP hnQ
  rcases Nat.eq_zero_or_pos nP with hz|hz
  ·subst hz
   have HE:=ZZ (show pre.map (fun x=>x.2)=D from by
    rw [←HU.out,List.length_eq_zero_iff.1 HNP.out]
    cases k <;> exact(List.append_nil _).symm)
   gi_wp2
   go_end0
   exact⟨⟨_,rfl⟩,pre,⟨HE.out,HPRE.out⟩,HJ.out⟩
  ·have hPne:P≠[]:=fun e=>by have:=HNP.out;rw [e] at this;simp at this;omega
   have hPe:P.isEmpty=false:=by cases P with|nil=>exact absurd rfl hPne|cons a l=>rfl
   obtain⟨ko,rfl⟩:∃j,k=j+1:=⟨k - 1,by
    rcases Nat.eq_zero_or_pos k with h|h
    ·subst h
     have h1:P.isEmpty=true:=HB.out;rw [hPe] at h1;cases h1
    ·omega⟩
   have hb2:(P.isEmpty || Q.isEmpty || (divOk M P Q && smB M (divF P Q).2 && chB M ko Q (smallF (scaleF (divF P Q).2 (-1)))))=true:=HB.out;rw [hPe,Bool.false_or] at hb2;have hu2:pre.map (fun x=>x.2) ++ (if P=[] then [] else if Q=[] then [P] else P :: chainU ko Q (smallF (scaleF (divF P Q).2 (-1))))=D:=HU.out;rw [if_neg hPne] at hu2
   have hlen:pre.length<D.length:=by
    rw [←hu2,List.length_append,List.length_map]
    split
    ·rw [List.length_singleton];omega
    ·rw [List.length_cons];omega
   obtain⟨fn,tmps,assign,body,hy,hR⟩:=HY.out pre (.slice AP nP cP,P) _ HJ.out HPP.out hlen;have HB2:=ZZ hb2;have HU2:=ZZ hu2;have HZ:=ZZ hz;have z1:decide ((0:Int)<(nP:Int))=true:=decide_eq_true (by omega);have z1':decide (0<nP)=true:=decide_eq_true hz;clear hPne hPe hb2 hu2 hlen hz
   dsimp only [encC] at hy
   gi_wp2
   refine hR.mono ?_;rintro e W3 ⟨rfl,hJ3,hk3⟩;have HJ3:=ZZ hJ3;have HPP3:=ZZ (HPP.out.keepS hk3);have HPQ3:=ZZ (HPQ.out.keepS hk3)
   have HPRE3:=ZZ (show ∀x ∈ pre ++ [(Value.slice AP nP cP,P)],Pl W3 x.1 x.2 from fun x hx=>by
    rcases List.mem_append.1 hx with hx|hx
    ·exact(HPRE.out x hx).keepS hk3
    ·rw [List.mem_singleton.1 hx];exact HPP3.out)
   have cf5:W3.cell? ⟨Bf,0,none⟩=some (.func (.func 117) #[] #[]):=(World.cell?_of_block (a:=⟨Bf,0,none⟩) (keep_cell hk3 cf6 (by rintro⟨_,_,_,e⟩;cases e))).trans cf6;clear hk3 hJ3 hy hR cf6 HPP HPQ HPRE HJ
   rcases Nat.eq_zero_or_pos nQ with hz|hz
   ·subst hz
    have HE:=ZZ (show (pre ++ [(Value.slice AP nP cP,P)]).map (fun x=>x.2)=D from by
     rw [←HU2.out,if_pos (List.length_eq_zero_iff.1 HNQ.out),List.map_append];rfl)
    gi_wp2
    refine bodyPost_ret (results_none rfl _ _ _) rfl ?_;exact⟨⟨_,rfl⟩,_,⟨HE.out,HPRE3.out⟩,HJ3.out⟩
   ·have hQne:Q≠[]:=fun e=>by have:=HNQ.out;rw [e] at this;simp at this;omega
    have hQe:Q.isEmpty=false:=by cases Q with|nil=>exact absurd rfl hQne|cons a l=>rfl
    have hb3:=HB2.out;rw [hQe,Bool.false_or,Bool.and_eq_true,Bool.and_eq_true] at hb3;have hu3:=HU2.out;rw [if_neg hQne] at hu3;have HB3:=ZZ hb3;have HU3:=ZZ hu3;have HQN:=ZZ (show trimF Q≠[] from by rw [HTQ.out];exact hQne);have HBR:=ZZ (sm_of hb3.1.2)
    have HLT:=ZZ (show (smallF (scaleF (divF P Q).2 (-1))).length<nQ from by
     have h1:=divOk_lt hb3.1.1;have h2:=scale_len (divF P Q).2 (-1);have h3:=small_len (scaleF (divF P Q).2 (-1));have h4:=HNQ.out
     omega)
    have z2:((nQ:Int) == 0)=false:=by rw [beq_eq_false_iff_ne];omega
    have z2':(nQ == 0)=false:=by rw [beq_eq_false_iff_ne];omega
    have z3:nQ≠0:=by omega
    have hdv:=ZZ (divided_p M HM0.out (by have:=HM.out;omega) _ _ P Q HLP1.out HLQ1.out _ HPP3.out HPQ3.out HQN.out hb3.1.1);clear hQne hQe hb3 hu3 hz
    gi_wp2_with (refine⟨trivial,?_⟩;gi_at_call 80;refine(callsIn_wide.2 hdv.out).mono ?_;rintro e w5 ⟨v5,v6,rfl,h5,h6,k5⟩;have HRest:=ZZ h6.pl;have K5:=ZZ k5;clear h5 h6 k5)
    have cf7:=cf5;clear cf5 hdv;have cf5:=ao K5.out cf7;clear cf7;refine wpIn_wide.2 ?_;refine wp_region_noPanic ?_;refine wp_region_held_drew (S:=fun W=>W.cell? ⟨Bf,0,none⟩=some (.func (.func 117) #[] #[])) (by kernel_rfl) (ao (ae _) cf5) (fun hHeld=>?_);refine take_a 0 31 ?_;refine take_a 1 32 ?_;refine take_a 2 33 ?_;refine call_p (i:=3) (some 34) rfl rfl (by kernel_rfl) (fun K hK=>?_)
    go_simp
    go_at_call 25
    refine(int_q (-1) (by decide) (by decide) _).mono ?_;rintro e w6 ⟨v6,rfl,h6,kk6⟩;have H6:=ZZ (show Nm w6 v6 (-1) from h6);have hy1:=ZZ (show Ext w5 w6 from al (ae _) kk6);clear h6 kk6
    try go_wp2_with fail
    refine hK.out _ _ (ao hy1.out cf5) (fun hHeld=>?_);clear hK K
    try simp only [Act.put,lyA,lyB,lyC]
    refine call_p (i:=4) (some 35) rfl rfl (by kernel_rfl) (fun K hK=>?_)
    go_simp
    go_at_call 116
    refine(scale_q (M+64) (by have:=HM.out;omega) _ _ (divF P Q).2 (-1) (by have h1:=(div_len P Q).2;have h2:=HLP1.out;omega) _ (HRest.out.mono hy1.out) H6.out (fun x hx=>(HBR.out x hx).mono (by omega)) (BN.out.mono (by omega))).mono ?_;rintro e w7 ⟨v7,rfl,h7,kk7⟩;have H7:=ZZ h7.pl;have hy2:=ZZ (al hy1.out kk7);clear h7 kk7
    try go_wp2_with fail
    refine hK.out _ _ (ao hy2.out cf5) (fun hHeld=>?_);clear hK K
    try simp only [Act.put,lyA,lyB,lyC]
    refine call_p (i:=5) (some 36) rfl rfl (by kernel_rfl) (fun K hK=>?_)
    go_simp
    go_at_call 117
    refine(small_p (M+64) (by have:=HM.out;omega) _ (scaleF (divF P Q).2 (-1)) (by have h0:=scale_len (divF P Q).2 (-1);have h1:=(div_len P Q).2;have h2:=HLP1.out;omega) _ H7.out (bq_scale HBR.out BN.out)).mono ?_;rintro e w8 ⟨v8,rfl,h8,kk8⟩;have H8:=ZZ h8;have hy3:=ZZ (al hy2.out kk8);clear h8 kk8
    try go_wp2_with fail
    refine hK.out _ _ (ao hy3.out cf5) (fun hHeld=>?_);clear hK K
    try simp only [Act.put,lyA,lyB,lyC]
    refine take_a 6 5 ?_;refine take_a 7 6 ?_;refine wpAnyH_done (by kernel_rfl) ?_ _;refine NoPanic.normal ?_;have E8:=ZZ (al K5.out hy3.out);have cf9:=ao hy3.out cf5;clear cf5
    gi_wp2
    go_roundw
    case rel=>exact⟨ko,Q,smallF (scaleF (divF P Q).2 (-1)),_,HLQ1,ZZ (by have h1:=HLT.out;have h2:=HLQ1.out;have h3:=HNQ.out;omega),ZZ (trim_small _),ZZ HB3.out.2,ZZ (by rw [List.map_append,List.append_assoc];exact HU3.out),ZZ (fun x hx=>(HPRE3.out x hx).mono E8.out),ZZ (HPQ3.out.mono E8.out),H8,ZZ (HJE.out _ _ _ HJ3.out E8.out),cf9⟩
    case measure=>
     obtain⟨A8,n8,c8,e8,hn8⟩:=H8.out.form;rw [e8]
     show n8<nQ
     rw [←hn8];exact HLT.out
end Go.Proofs.YtaaoleakkaloeaaGreatDoor
set_option linter.unusedVariables false
set_option maxRecDepth 100000
set_option maxHeartbeats 64000000
namespace Go.Proofs.YtaaoleakkaloeaaGreatDoor
open Go Go.RowKit Go.Shelf
set_option linter.unusedSimpArgs false
attribute [local go_sem] Oper.semAt_some
theorem wpListIn_appendG {F:Fence} {n₁:Nat} {P:Program} {S T:TypeId} {sz bytes:Nat} {z:Value} (E:ElT P S T sz bytes z) {C:Value→Prop} (hC0:∀c ∈ z.cells.toList,C c) {ops:Array Oper} {rest:List Oper} {o:Oper} {a:Act} {w:World} {Q:Exit→Act→World→Prop} (hgd:o.guard=none) (s x:Operand) (ho:o.op=.call { callee:=.builtin .append,args:=#[s,x],argTypes:=#[S,S] }) (B:Nat) (v:Value) (n:Nat) (xs:List Value) (hs:a.eval s=v) (hown:OwnG w B T sz C v n xs) (ad:Addr) (m c:Nat) (news:List Value) (hx:a.eval x=.slice (some ad) m c) (hl:news.length=m*sz) (hnews:∀j u,news[j]?=some u→w.cell? (ad.add j)=some u) (h1:∀u ∈ news,u.oneCell'=true) (hu:∀u ∈ news,C u) (hm:0<m) (hn:(n+m)*bytes≤140737488355328) (h63:n+m≤maxLen) (hB:B≤w.heap.size) (h:∀v' w',OwnG w' B T sz C v' (n+m) (xs ++ news)→w.grownBy w' v.ownBlock→wpListIn F n₁ P ops Q rest (a.put o.dst v') w'):wpListIn F n₁ P ops Q (o :: rest) a w:=by
 refine wpListIn_plain hgd fun K hK=>?_;obtain⟨v',w',hr,h2,h3⟩:=run_appendG E hC0 w B o.type v n xs hown ad m c news hl hnews h1 hu hm hn h63 hB;unfold Oper.wpIn;refine⟨by simp [Oper.about,ho,resolve,Target.leads,Sem.run_pure],?_⟩;rw [Oper.semAt_plain F _ _ (by rw [ho];intro c hc';cases hc')]
 simp [execOp,ho,resolve,invoke,builtin,hs,hx,hr,Result.andThen]
 exact hK _ _ (h v' w' h2 h3)
theorem PlL.cb {A B:World} {v:Value} {ls:List (List Rat)} (h:PlL A v ls) (k:Cb A B):PlL B v ls:=by
 obtain⟨X,cap,e,hc,hA⟩:=h;refine⟨X,cap,e,hc,?_⟩
 rcases hA with h|⟨b,o,e1,ht⟩
 ·exact .inl h
 ·exact .inr ⟨b,o,e1,fun i l hl=>by obtain⟨u,h1,h2⟩:=ht i l hl;exact⟨u,k _ _ _ h1,h2.cb k⟩⟩
theorem OwnG.other {W W':World} {B:Nat} {T:TypeId} {s:Nat} {C:Value→Prop} {v:Value} {n:Nat} {xs:List Value} (h:OwnG W B T s C v n xs) (hk:∀g,v.ownBlock=some g→W'.heap[g]?=W.heap[g]?):OwnG W' B T s C v n xs:=by
 obtain⟨h1,h2⟩:=h;refine⟨h1,?_⟩
 rcases h2 with h2|⟨g,cap,cur,e,hb,hh,hr⟩
 ·exact .inl h2
 ·exact .inr ⟨g,cap,cur,e,hb,(hk g (by rw [e];rfl)).trans hh,hr⟩
def OutC (go:Nat) (pre:List (Value × List Rat)) (W:World):Prop:=∃v,W.heap[go]?=some (.cells #[v] 77 (0,0))∧OwnV W (go+1) v pre.length (pre.map fun y=>y.1)
theorem OwnG.slice {W:World} {B:Nat} {T:TypeId} {s:Nat} {C:Value→Prop} {v:Value} {n:Nat} {xs:List Value} (h:OwnG W B T s C v n xs):∃A c,v=.slice A n c:=by
 rcases h.2 with ⟨e,h0⟩|⟨g,cap,cur,e,-⟩
 ·exact⟨none,0,by rw [h0];exact e⟩
 ·exact⟨_,_,e⟩
theorem chain_p (M:Nat) (hM0:0<M) (hM:M≤4294967296) (vp vq:Value) (p q:List Rat) (hlp:p.length≤100000) (hlq:q.length≤100000) (w:World) (hp:Pl w vp p) (hq:Pl w vq q) (hok:chainOk M p q=true):Calls Tryz.prog 37 #[vp,vq] w fun e w'=>∃v,e=.returned v∧PlL w' v (chainF p q)∧Ext w w':=by
 obtain⟨A,n,c,rfl,-⟩:=hp.form;obtain⟨A',n',c',rfl,-⟩:=hq.form
 have hcl:(chainF p q).length≤p.length+q.length+2:=by
  have:∀(k:Nat) (a b:List Rat),(chainU k a b).length≤k:=by
   intro k
   induction k with
   | zero=>intro a b;exact Nat.le_refl _
   | succ k ih=>
    intro a b;unfold chainU
    split
    ·exact Nat.zero_le _
    ·split
     ·simp
     ·rw [List.length_cons];exact Nat.succ_le_succ (ih _ _)
  exact this _ _ _
 have HCL:=ZZ (show (chainF p q).length≤300000 by omega);have HP:=ZZ hp;have HQ:=ZZ hq;have HLP:=ZZ hlp;have HLQ:=ZZ hlq;have HOK:=ZZ hok;have HM:=ZZ hM;have HM0:=ZZ hM0;clear hp hq hlp hlq hok hM hM0 hcl;refine(callsIn_wide (n:=4)).1 ?_;refine callsIn_of_wp_marks Tryz.func37 rfl trivial ?_ rfl
 simp only [Tryz.ntmps37,List.size_toArray,List.length_cons,List.length_nil,Nat.reduceAdd,Nat.reduceSub,Array.replicate_succ,Array.replicate_zero,List.push_toArray,List.append_toArray,List.nil_append,List.cons_append]
 have st:=sturm_c (.slice A n c) (.slice A' n' c') ⟨_,_,_,rfl⟩ ⟨_,_,_,rfl⟩
 gi_wp2_with (refine⟨trivial,?_⟩;gi_at_call 81;refine(callsIn_wide.2 (st _)).mono ?_;rintro e w' ⟨rfl,rfl⟩)
 clear st;obtain⟨go,hgo⟩:∃g,w.heap.size=g:=⟨_,rfl⟩;have sz:∀(W:World) (o:Obj),(W.alloc o).heap.size=W.heap.size+1:=fun W o=>World.size_alloc W o;obtain⟨W1,hW1⟩:∃W,W=w.alloc (.cells #[.slice none 0 0] 77):=⟨_,rfl⟩;have r1:W1.heap[go]?=some (.cells #[.slice none 0 0] 77 (0,0)):=by rw [hW1,←hgo];exact heap_alloc_new _ _
 have x1:Ext w W1:=by rw [hW1];exact ac _ _
 have s1:w.heap.size+1=W1.heap.size:=by rw [hW1];exact(sz _ _).symm
 rw [←hW1,hgo]
 simp only [←hgo,s1]
 have hgs:go<W1.heap.size:=lt_of_block r1;rw [hgo];clear hW1;obtain⟨gp,hgp⟩:∃g,W1.heap.size=g:=⟨_,rfl⟩;obtain⟨gq,hgq⟩:∃g,W1.heap.size+1=g:=⟨_,rfl⟩;obtain⟨gf,hgf⟩:∃g,W1.heap.size+1+1=g:=⟨_,rfl⟩;obtain⟨W4,hW4⟩:∃W,W=((W1.alloc (.cells #[.slice A n c] 25)).alloc (.cells #[.slice A' n' c'] 25)).alloc (.cells #[.func (.func 117) #[] #[]] 29):=⟨_,rfl⟩;have x4:Ext W1 W4:=by rw [hW4];exact al (ac _ _) (al (ac _ _) (ac _ _))
 have rp:W4.heap[gp]?=some (.cells #[.slice A n c] 25 (0,0)):=by
  have h:=(al (ac (W1.alloc (.cells #[.slice A n c] 25)) (.cells #[.slice A' n' c'] 25)) (ac _ (.cells #[.func (.func 117) #[] #[]] 29))).block W1.heap.size (by rw [sz];omega:W1.heap.size<(W1.alloc (.cells #[.slice A n c] 25)).heap.size);rw [hW4,←hgp];exact h.trans (heap_alloc_new _ _)
 have rq:W4.heap[gq]?=some (.cells #[.slice A' n' c'] 25 (0,0)):=by
  have h:=(ac ((W1.alloc (.cells #[.slice A n c] 25)).alloc (.cells #[.slice A' n' c'] 25)) (.cells #[.func (.func 117) #[] #[]] 29)).block (W1.heap.size+1) (by rw [sz,sz];omega);rw [hW4,←hgq,h,←sz W1 (.cells #[.slice A n c] 25)];exact heap_alloc_new _ _
 have rf:W4.heap[gf]?=some (.cells #[.func (.func 117) #[] #[]] 29 (0,0)):=by
  rw [hW4,←hgf,←sz W1 (.cells #[.slice A n c] 25),←sz (W1.alloc (.cells #[.slice A n c] 25)) (.cells #[.slice A' n' c'] 25)];exact heap_alloc_new _ _
 rw [←hW4,hgf,hgq,hgp];clear hgp hgq hgf hW4 sz s1;have ro:=(x4.block _ hgs).trans r1;have x14:=al x1 x4;have HP4:=ZZ (HP.out.mono x14);have HQ4:=ZZ (HQ.out.mono x14);have d1:w.heap.size≤go:=Nat.le_of_eq hgo;have d5:w.heap.size≤W4.heap.size:=x14.size;have d6:go<W4.heap.size:=lt_of_block ro;clear r1 x1 hgs x4;refine wpIn_rangeR (α:=Value × List Rat) (gf:=118) (lb:=#[.pointer (some ⟨gf,0,none⟩),.pointer (some ⟨gp,0,none⟩),.pointer (some ⟨gq,0,none⟩)]) rfl (enters_of Tryz.func118 (by kernel_rfl) rfl) (encs:=encC) (R:=fun x W=>Pl W x.1 x.2) (Z:=ZS) (S:=fun xs W=>xs.map (fun x=>x.2)=chainF p q∧∀x ∈ xs,Pl W x.1 x.2) (N:=(chainF p q).length) (w0:=W4) (fun l J W hW hJ hY h0=>sturm_in M HM0.out HM.out _ (by decide) l gf gp gq _ _ p q HLP.out HLQ.out HOK.out J hJ hY W (HP4.out.mono hW) (HQ4.out.mono hW) (ao hW (by rw [cell_of_row _ _ _ _ _ _ rf];rfl)) (ao hW (by rw [cell_of_row _ _ _ _ _ _ rp];rfl)) (ao hW (by rw [cell_of_row _ _ _ _ _ _ rq];rfl)) h0) (af _) (fun _=>rfl) (fun pre W=>Hid (Ext w W∧OutC go pre W))
  (fun pre A B row hs hg hr=>by
   obtain⟨h1,v,h2,h3⟩:=hs.out
   exact ZZ ⟨ownz_ext h1 d5 hg hr,v,ownz_block hg hr h2,h3.other (fun g hgv=>by
    rcases h3.2 with ⟨e,-⟩|⟨g',cap,cur,e,-,hh,-⟩
    ·rw [e] at hgv;cases hgv
    ·rw [e] at hgv
     obtain rfl:g'=g:=Option.some.inj hgv;exact(ownz_block hg hr hh).trans hh.symm)⟩)
  (ZZ ⟨x14,_,ro,OwnG.nil _ _ _ _ _⟩)
  (fun y a' W=>isSl y.1∧a'={ tmps:=#[.slice A n c,.slice A' n' c',undef,undef,.slice none 0 0,.pointer (some ⟨go,0,none⟩),y.1,.slice A n c,.slice A' n' c',.func (.func 118) #[] #[.pointer (some ⟨gf,0,none⟩),.pointer (some ⟨gp,0,none⟩),.pointer (some ⟨gq,0,none⟩)],y.1,undef,undef,undef,undef,undef],defers:=[] })
  (fun y a' u A B row hs hg hr=>hs)
  (fun xs A B row hs hg hr=>⟨hs.1,fun x hx=>(hs.2 x hx).cb (ownz_cb hg hr)⟩) ?assign ?body ?done
 case assign=>
  rintro l pre ⟨v',q'⟩ W K hi hr hK;obtain⟨A5,n5,c5,e5,-⟩:=Pl.form hr;obtain rfl:v'=.slice A5 n5 c5:=e5;have hK2:=hK { tmps:=#[.slice A n c,.slice A' n' c',undef,undef,.slice none 0 0,.pointer (some ⟨go,0,none⟩),.slice A5 n5 c5,.slice A n c,.slice A' n' c',.func (.func 118) #[] #[.pointer (some ⟨gf,0,none⟩),.pointer (some ⟨gp,0,none⟩),.pointer (some ⟨gq,0,none⟩)],.slice A5 n5 c5,undef,undef,undef,undef,undef],defers:=[] } W (af _) ⟨⟨_,_,_,rfl⟩,rfl⟩;clear hK hr hi
  simp only [encC]
  gi_wp2
  exact hK2
 case body=>
  rintro l pre ⟨v',q'⟩ a' W hI ⟨⟨A5,n5,c5,e5⟩,rfl⟩ hlen;obtain rfl:v'=.slice A5 n5 c5:=e5;obtain⟨hE,v,hO,hV⟩:=hI.out;obtain⟨Av,cv,ev⟩:=hV.slice;subst ev;have HEW:=ZZ hE;have HOR:=ZZ hO;have x1:=ac W (.cells #[.slice A5 n5 c5] 25);have HV1:=ZZ (hV.mono x1);have HX1:=ZZ x1;have C1:=ZZ (cell1_new W (.slice A5 n5 c5) 25);have HLN:=ZZ (show pre.length<300000 from Nat.lt_of_lt_of_le hlen HCL.out);have r0:W.cell? ⟨go,0,none⟩=some (.slice Av pre.length cv):=by rw [cell_of_row _ _ _ _ _ _ hO];rfl
  have HSZ:=ZZ (show go+1≤(W.alloc (.cells #[.slice A5 n5 c5] 25)).heap.size from by have h1:=lt_of_block hO;have h2:=x1.size;omega);obtain⟨np,hnp⟩:∃np,pre.length=np:=⟨_,rfl⟩;rw [hnp] at HV1 r0 HOR HLN;have HNP:=ZZ hnp;clear hE hO hV hI hlen x1 hnp
  gi_wp2_with (gi_at_builtin;refine wpListIn_appendG elPl zero_sl rfl _ _ rfl (go+1) (.slice Av np cv) np (pre.map fun (y:Value × List Rat)=>y.1) rfl HV1.out ⟨W.heap.size,0,none⟩ 1 _ [.slice A5 n5 c5] rfl rfl C1.out (by intro u hu;rw [List.mem_singleton.1 hu];rfl) (by intro u hu;rw [List.mem_singleton.1 hu];exact⟨_,_,_,rfl⟩) (by decide) (by have h1:=HLN.out;omega) (by have h1:=HLN.out;unfold maxLen;omega) HSZ.out ?_;intro v8 w8 hown8 hgrow;obtain⟨A8,c8,e8⟩:=hown8.slice;subst e8;have HG8:=ZZ hgrow;have HO8:=ZZ hown8;have ro8:=ZZ (show w8.heap[go]?=some (.cells #[.slice Av np cv] 77 (0,0)) from (hgrow.block go (by have h1:=HSZ.out;omega) (fun e=>by have h1:=(HV1.out.lt go e.symm).1;omega)).trans ((HX1.out.block _ (lt_of_block HOR.out)).trans HOR.out));have r8:w8.cell? ⟨go,0,none⟩=some (.slice Av np cv):=(by rw [cell_of_row _ _ _ _ _ _ ro8.out];rfl);have f8:=frozen_row ro8.out 0;clear hgrow hown8)
  gi_wp2
  have hOB:∀g,(Value.slice Av np cv).ownBlock=some g→g≠go:=fun g hg e=>by have h1:=(HV1.out.lt g hg).1;omega
  have hOB8:∀g,(Value.slice A8 (np+1) c8).ownBlock=some g→g≠go:=fun g hg e=>by have h1:=(HO8.out.lt g hg).1;omega
  have e1:Ext w (W.alloc (.cells #[.slice A5 n5 c5] 25)):=al HEW.out HX1.out;have e8:Ext w w8:=Below.grown e1 HG8.out e1.size (fun k hk=>by have h1:=(HV1.out.lt k hk).1;omega);refine⟨?_,?_,?_⟩
  ·refine⟨?_,fun k o _ hk ho=>?_⟩
   ·simp [World.setCell]
    exact Nat.le_trans HX1.out.size HG8.out.size
   ·have hlt:=(Array.getElem?_eq_some_iff.1 hk).1
    have hk1:=(HX1.out.block _ hlt).trans hk;have hne:k≠go:=fun e=>by subst e;rw [HOR.out] at hk;cases hk;cases ho
    rw [Below.heap_setCell _ _ _ _ hne];refine(HG8.out.block k (Array.getElem?_eq_some_iff.1 hk1).1 (fun e=>?_)).trans hk1
    rcases HV1.out.2 with ⟨e2,-⟩|⟨g',cap,cur,e2,-,hh,-⟩
    ·rw [e2] at e;cases e
    ·rw [e2] at e
     obtain rfl:g'=k:=(Option.some.inj e).symm;rw [hh] at hk1;cases hk1;cases ho
  ·refine⟨?_,fun k o hk ho hz=>?_⟩
   ·simp [World.setCell]
    exact Nat.le_trans HX1.out.size HG8.out.size
   ·have hlt:=(Array.getElem?_eq_some_iff.1 hk).1
    have hk1:=(HX1.out.block _ hlt).trans hk;obtain⟨cs,T1,f1,rfl,cc,hcc,hns⟩:=hz
    have hne:k≠go:=fun e=>by
     subst e;rw [HOR.out] at hk
     cases hk
     rw [show (#[Value.slice Av np cv]:Array Value).toList=[.slice Av np cv] from rfl,List.mem_singleton] at hcc;exact hns (by rw [hcc];exact⟨_,_,_,rfl⟩)
    rw [Below.heap_setCell _ _ _ _ hne];refine(HG8.out.block k (Array.getElem?_eq_some_iff.1 hk1).1 (fun e=>?_)).trans hk1
    rcases HV1.out.2 with ⟨e2,-⟩|⟨g',cap,cur,e2,-,hh,-,-,-,-,hall⟩
    ·rw [e2] at e;cases e
    ·rw [e2] at e
     obtain rfl:g'=k:=(Option.some.inj e).symm;rw [hh] at hk1;cases hk1;exact hns (hall _ hcc)
  ·refine ZZ ⟨e8.setCell (p:=⟨go,0,none⟩) d1 _,.slice A8 (np+1) c8,?_,?_⟩
   ·have:=row_set ro8.out (j:=0) (.slice A8 (np+1) c8)
    simpa using this
   ·rw [List.length_append,List.length_singleton,List.map_append,List.map_singleton,HNP.out]
    exact HO8.out.other (fun g hg=>Below.heap_setCell _ _ _ _ (hOB8 g hg))
 case done=>
  rintro D xs W hD hs hI hK;obtain⟨hE,v,hO,hV⟩:=hI.out;obtain⟨Av,cv,ev⟩:=hV.slice;subst ev;obtain⟨np,hnp⟩:∃np,xs.length=np:=⟨_,rfl⟩
  have hL:OwnL W (go+1) (.slice Av xs.length cv) (chainF p q):=by
   refine⟨_,by rw [←hs.1,List.length_map];exact hV,fun i l' hl=>?_⟩;rw [←hs.1,List.getElem?_map] at hl;obtain⟨x,hx,rfl⟩:=Option.map_eq_some_iff.1 hl;exact⟨x.1,by rw [List.getElem?_map,hx];rfl,hs.2 x (List.mem_of_getElem? hx)⟩
  rw [hnp] at hL hO;have HEW:=ZZ hE;have HLW:=ZZ hL.pll;have HKD:=ZZ hK;have r0:W.cell? ⟨go,0,none⟩=some (.slice Av np cv):=by rw [cell_of_row _ _ _ _ _ _ hO];rfl
  clear hI hs hE hO hV hK hL hnp ro rf rp rq
  gi_wp2
  refine⟨by simp,.inl ⟨_,_,rfl,run_takeDeferred HKD.out,?_⟩⟩;exact⟨_,results_tmp rfl _ _ _,_,rfl,HLW.out.cb (ownz_cb (grownBy_putObj' _ _ _) (fun r e=>by cases e;exact⟨hD,_,HKD.out,rfl⟩)),ownz_ext HEW.out d5 (grownBy_putObj' _ _ _) (fun r e=>by cases e;exact⟨hD,_,HKD.out,rfl⟩)⟩
end Go.Proofs.YtaaoleakkaloeaaGreatDoor
