/- Sturm's chain. -/
import Derived.Test.YtkoaakefgacokaaGreatDoorGYa
import Derived.Laws.EntriesVeiled
import Derived.Test.YtkoaakefgacokaaGreatDoorGTd
import Derived.Test.YtkoaakefgacokaaGreatDoorGRat
import Derived.Test.YtkoaakefgacokaaGreatDoorGTa
import Derived.Lib.Hide
import Derived.Test.YtkoaakefgacokaaGreatDoorGRe
set_option linter.unusedVariables false
set_option linter.unusedSimpArgs false
set_option maxRecDepth 100000
set_option maxHeartbeats 64000000
namespace Go.Proofs.YtkoaakefgacokaaGreatDoor
open Go Go.RowKit Go.Shelf
attribute [local go_sem] Oper.semAt_some
def smallF (p:List Rat):List Rat:=if trimF p=[] then [] else scaleF (trimF p) (1 / absQ (topF (trimF p)))
theorem small_len (p:List Rat):(smallF p).length≤p.length:=by
 unfold smallF
 split
 ·exact Nat.zero_le _
 ·exact Nat.le_trans (scale_len _ _) (trim_le p)
theorem trim_small (p:List Rat):trimF (smallF p)=smallF p:=by
 unfold smallF
 split
 ·rfl
 ·exact trim_trim _
theorem bq_absQ {M:Nat} {x:Rat} (h:Bq M x):Bq M (absQ x):=by unfold absQ;split;exact h.neg;exact h
theorem absQ_neP {x:Rat} (h:x≠0):absQ x≠0:=by unfold absQ;split;exact fun e=>h (by grind);exact h
theorem small_p (M:Nat) (hM:M≤1099511627000) (vp:Value) (p:List Rat) (hlp:p.length≤1000000) (w:World) (hp:Pl w vp p) (hbp:∀x ∈ p,Bq M x):Calls Tryz.prog 113 #[vp] w fun e w'=>∃v',e=.returned v'∧Pl w' v' (smallF p)∧Ext w w':=by
 have HP:=ZZ hp;have HLP:=ZZ hlp;have HBP:=ZZ hbp;have HM:=ZZ hM;clear hp hlp hbp hM
 go_enter Tryz.func113,Tryz.ntmps113
 go_wp2_with fail;refine(trim_q _ p HLP.out _ HP.out).mono ?_
 rintro e w3 ⟨v3,rfl,h3,k3⟩;obtain⟨A,n,cap,e3,hn⟩:=h3.pl.form;subst e3;have HN:=ZZ hn;have H3:=ZZ h3.pl;have K3:=ZZ k3;have HT:=ZZ (show n≤p.length by rw [←hn];exact trim_le p);clear h3 k3 hn
 rcases Nat.eq_zero_or_pos n with h0|h0
 ·subst h0
  go_wp2_with fail;go_ret
  have e0:trimF p=[]:=List.length_eq_zero_iff.1 HN.out;refine⟨_,rfl,?_,K3.out⟩;rw [show smallF p=[] from if_pos e0,←e0];exact H3.out
 ·obtain⟨k,rfl⟩:∃k,n=k+1:=⟨n - 1,by omega⟩
  have z0:decide ((0:Int)<((k+1:Nat):Int))=true:=decide_eq_true (by omega);have z1:decide ((0:Int)<(k:Int)+1)=true:=decide_eq_true (by omega);have HNE:=ZZ (show trimF p≠[] from fun e=>by have:=HN.out;rw [e] at this;simp at this);have HTOP:=ZZ (top_get HN.out);have HT0:=ZZ (top_trim_ne HNE.out);have BT:=ZZ (HBP.out _ (trim_mem (List.mem_of_getElem? HTOP.out)));have BONE:=ZZ (show Bq 64 (1:Rat) from bq_int 1 (by decide) (by decide));clear h0;go_wp2_with fail;refine(int_q 1 (by decide) (by decide) _).mono ?_;rintro e w4 ⟨v4,rfl,h4,k4⟩;have H4:=ZZ (show Nm w4 v4 1 from h4);have K4:=ZZ k4;clear h4 k4;go_wp2_with fail;have H3':=ZZ (show Pl w4 (.slice A (k+1) cap) (trimF p) from H3.out.mono K4.out);refine(top_q _ (trimF p) (by rw [HN.out];exact Nat.le_trans HT.out HLP.out) k _ HN.out HTOP.out _ H3'.out).mono ?_;rintro e w5 ⟨v5,rfl,h5,k5⟩;have H5:=ZZ h5;have K5:=ZZ k5;clear h5 k5;go_wp2_with fail;refine(abs_q _ (topF (trimF p)) _ H5.out).mono ?_;rintro e w8 ⟨v8,rfl,h8,k8⟩;have H8:=ZZ h8;have K8:=ZZ (al K5.out k8);clear h8 k8;go_wp2_with fail;refine(over_q (M+64) (by have:=HM.out;omega) _ _ 1 (absQ (topF (trimF p))) _ (H4.out.mono K8.out) H8.out (BONE.out.mono (by omega)) ((bq_absQ BT.out).mono (by omega)) (absQ_neP HT0.out)).mono ?_;rintro e w6 ⟨v6,rfl,h6,k6⟩;have H6:=ZZ h6;have K6:=ZZ (al K4.out (al K8.out k6));clear h6 k6;go_wp2_with fail
  refine(scale_q M (by have:=HM.out;omega) _ _ (trimF p) (1 / absQ (topF (trimF p))) (by rw [HN.out];exact Nat.le_trans HT.out HLP.out) _ (H3.out.mono K6.out) H6.out (fun x hx=>HBP.out x (trim_mem hx)) (bq_inv2 (bq_absQ BT.out) (absQ_neP HT0.out))).mono ?_;rintro e w7 ⟨v7,rfl,h7,k7⟩;have H7:=ZZ h7.pl;have K7:=ZZ (al K3.out (al K6.out k7));clear h7 k7;go_wp2_with fail;go_ret;refine⟨_,rfl,?_,K7.out⟩;rw [show smallF p=scaleF (trimF p) (1 / absQ (topF (trimF p))) from if_neg HNE.out];exact H7.out
theorem sturm_c (vp vq:Value) (hp:isSl vp) (hq:isSl vq) (w:World):Calls Tryz.prog 74 #[vp,vq] w fun e w'=>e=.returned (.func (.func 114) #[] #[.pointer (some ⟨w.heap.size+1+1,0,none⟩),.pointer (some ⟨w.heap.size,0,none⟩),.pointer (some ⟨w.heap.size+1,0,none⟩)])∧w'=((w.alloc (.cells #[vp] 27)).alloc (.cells #[vq] 27)).alloc (.cells #[.func (.func 113) #[] #[]] 64):=by
 obtain⟨A,n,c,rfl⟩:=hp;obtain⟨A',n',c',rfl⟩:=hq
 go_enter Tryz.func74,Tryz.ntmps74
 go_wp2_with fail;go_ret
 exact⟨rfl,rfl⟩
def chainU:Nat→List Rat→List Rat→List (List Rat)
 | 0,_,_=>[]
 | n+1,p,q=>if p=[] then [] else if q=[] then [p] else p :: chainU n q (smallF (scaleF (divF p q).2 (-1)))
def chainF (p q:List Rat):List (List Rat):=chainU (p.length+q.length+2) (smallF p) (smallF q)
def chB (M:Nat):Nat→List Rat→List Rat→Bool
 | 0,p,_=>p.isEmpty
 | n+1,p,q=>p.isEmpty || q.isEmpty || (divOk M p q && smB M (divF p q).2 && chB M n q (smallF (scaleF (divF p q).2 (-1))))
def chainOk (M:Nat) (p q:List Rat):Bool:=smB M p && smB M q && chB M (p.length+q.length+2) (smallF p) (smallF q)
theorem div_rest_lt {M:Nat} (n:Nat) (quo rest q:List Rat) (h:divB M n rest q=true):(divU n quo rest q).2.length<q.length:=by
 induction n generalizing quo rest with
 | zero=>exact of_decide_eq_true h
 | succ n ih=>
  unfold divB at h;unfold divU
  by_cases hl:rest.length<q.length
  ·rw [if_pos hl];exact hl
  ·rw [if_neg hl,Bool.and_eq_true] at h
   rw [if_neg hl];exact ih _ _ h.2
theorem divOk_lt {M:Nat} {p q:List Rat} (h:divOk M p q=true):(divF p q).2.length<q.length:=by
 unfold divOk at h;rw [Bool.and_eq_true] at h;exact Nat.lt_of_lt_of_le (div_rest_lt _ _ _ _ h.2) (trim_le q)
def lenOf:Value→Nat | .slice _ n _=>n|_=>0
def ZS (_:Nat) (o:Obj):Prop:=∃cs T f,o=.cells cs T f∧∃c ∈ cs.toList,¬ isSl c
theorem keep_cell {A B:World} (k:KeepZ ZS A B) {b j:Nat} {c:Value} (h:A.cell? ⟨b,j,none⟩=some c) (hc:¬ isSl c):B.heap[b]?=A.heap[b]?:=by
 obtain⟨o,ho,hoc⟩:=cell_block h;refine(k.2 _ o ho hoc ?_).trans ho.symm
 cases o with
 | cells cs T f=>
  refine⟨cs,T,f,rfl,c,?_,hc⟩;unfold World.cell? at h;rw [show A.heap[b]?=some (.cells cs T f) from ho] at h;have h':cs[j]?=some c:=by simpa using h
  rw [Array.mem_toList_iff];exact Array.mem_of_getElem? h'
 | _=>cases hoc
theorem Nm.keepS {A B:World} {v:Value} {q:Rat} (h:Nm A v q) (k:KeepZ ZS A B):Nm B v q:=by
 have key:∀ {vv:Value} {m:Nat},Wd A vv m→Wd B vv m:=by
  intro vv m hw;obtain⟨X,cc,e,hc,hcl⟩:=hw;refine⟨X,cc,e,hc,?_⟩
  rcases Nat.eq_zero_or_pos (dg m).length with h0|h0
  ·left;rw [List.length_eq_zero_iff.1 h0];rfl
  ·obtain⟨bl,o,hA,hce⟩:=hcl.at_ (by simpa using h0)
   right
   refine⟨bl,o,hA,fun j hj=>?_⟩;have hj':j<(dg m).length:=by simpa using hj
   have h1:=hce j hj;rw [getD_map_u64 _ _ hj'] at h1;have hk:=keep_cell k h1 (by rintro⟨_,_,_,e⟩;cases e);exact(World.cell?_of_block (a:=⟨bl,o+j,none⟩) hk).trans (hce j hj)
 obtain⟨vn,vd,e,h1,h2⟩:=h;exact⟨vn,vd,e,key h1,key h2⟩
theorem Pl.keepS {A B:World} {v:Value} {l:List Rat} (h:Pl A v l) (k:KeepZ ZS A B):Pl B v l:=by
 obtain⟨X,cap,e,hc,hA⟩:=h;refine⟨X,cap,e,hc,?_⟩
 rcases hA with h|⟨b,o,e1,ht⟩
 ·exact .inl h
 ·refine .inr ⟨b,o,e1,fun i q hq=>?_⟩
  obtain⟨s,A1,m,ca,B1,n1,cb,h1,h2,h3,h4⟩:=ht i q hq;have hb:=keep_cell k h1 (by rintro⟨_,_,_,e⟩;cases e);exact⟨s,A1,m,ca,B1,n1,cb,(World.cell?_of_block (a:=⟨b,_,none⟩) hb).trans h1,(World.cell?_of_block (a:=⟨b,_,none⟩) hb).trans h2,(World.cell?_of_block (a:=⟨b,_,none⟩) hb).trans h3,h4.keepS k⟩
theorem Pl.cb {A B:World} {v:Value} {l:List Rat} (h:Pl A v l) (k:Cb A B):Pl B v l:=by
 obtain⟨X,cap,e,hc,hA⟩:=h;refine⟨X,cap,e,hc,?_⟩
 rcases hA with h|⟨b,o,e1,ht⟩
 ·exact .inl h
 ·exact .inr ⟨b,o,e1,fun i q hq=>(ht i q hq).cb k⟩
def encC (x:Value × List Rat):Array Value:=#[x.1]
theorem sturm_in (M:Nat) (hM0:0<M) (hM:M≤5400000000) (n₁:Nat) (hn:1≤n₁) (l Bf Bp Bz:Nat) (vp vq:Value) (p q:List Rat) (hlp:p.length≤100000) (hlq:q.length≤100000) (hok:chainOk M p q=true) (J:List (Value × List Rat)→World→Prop) (hJE:∀pre A B,J pre A→Ext A B→J pre B) (hY:∀pre x W1,J pre W1→Pl W1 x.1 x.2→pre.length<(chainF p q).length→YieldAt Fence.wide (n₁ - 1) Tryz.prog l (encC x) W1 fun e W'=>e=.returned (.bool true)∧J (pre ++ [x]) W'∧KeepZ ZS W1 W') (W:World) (hp:Pl W vp p) (hq:Pl W vq q) (cf:W.cell? ⟨Bf,0,none⟩=some (.func (.func 113) #[] #[])) (cp:W.cell? ⟨Bp,0,none⟩=some vp) (cz:W.cell? ⟨Bz,0,none⟩=some vq) (h0:J [] W):CallsIn Fence.wide n₁ Tryz.prog 114 #[.func (.yield l) #[] #[],.pointer (some ⟨Bf,0,none⟩),.pointer (some ⟨Bp,0,none⟩),.pointer (some ⟨Bz,0,none⟩)] W fun e W'=>(∃v,e=.returned v)∧∃xs:List (Value × List Rat),(xs.map (fun x=>x.2)=chainF p q∧∀x ∈ xs,Pl W' x.1 x.2)∧J xs W':=by
 obtain⟨A,n,c,rfl,-⟩:=hp.form;obtain⟨A',n',c',rfl,-⟩:=hq.form;unfold chainOk at hok;rw [Bool.and_eq_true,Bool.and_eq_true] at hok;obtain⟨⟨hsp,hsq⟩,hcb⟩:=hok;obtain⟨D,hD⟩:∃D,chainF p q=D:=⟨_,rfl⟩;rw [hD] at hY ⊢;have HD:=ZZ (show chainU (p.length+q.length+2) (smallF p) (smallF q)=D from hD);have HSP:=ZZ (sm_of hsp);have HSQ:=ZZ (sm_of hsq);have HCB:=ZZ hcb;have HLP:=ZZ hlp;have HLQ:=ZZ hlq;have HM0:=ZZ hM0;have HM:=ZZ hM;have HY:=ZZ hY;have HJE:=ZZ hJE;have HJ0:=ZZ h0;have HP:=ZZ hp;have HQ:=ZZ hq;have BN:=ZZ (show Bq 64 (-1:Rat) from bq_int (-1) (by decide) (by decide));have HC:=ZZ (show ∀W',Ext W W'→W'.cell? ⟨Bf,0,none⟩=some (.func (.func 113) #[] #[])∧W'.cell? ⟨Bp,0,none⟩=some (.slice A n c)∧W'.cell? ⟨Bz,0,none⟩=some (.slice A' n' c') from fun W' k=>⟨ao k cf,ao k cp,ao k cz⟩);clear hsp hsq hcb hlp hlq hM0 hM hY hJE h0 hp hq hD cf cp cz;refine callsIn_of_wp Tryz.func114 rfl trivial ?_ rfl
 simp only [Tryz.ntmps114,List.size_toArray,List.length_cons,List.length_nil,Nat.reduceAdd,Nat.reduceSub,Array.replicate_succ,Array.replicate_zero,List.push_toArray,List.append_toArray,List.nil_append,List.cons_append]
 gi_wp2
 refine wpIn_wide.2 ?_;have hun:undef=.tuple #[]:=rfl;refine wp_region_noPanic ?_;refine wp_region_held_drew (S:=fun W=>W.cell? ⟨Bf,0,none⟩=some (.func (.func 113) #[] #[])∧W.cell? ⟨Bp,0,none⟩=some (.slice A n c)∧W.cell? ⟨Bz,0,none⟩=some (.slice A' n' c')) (by kernel_rfl) (HC.out _ (ac _)) (fun hHeld=>?_);refine take_a 0 9 ?_;refine take_a 1 10 ?_;refine take_a 3 12 ?_;refine take_a 4 13 ?_;refine call_p (i:=2) (some 11) rfl rfl (by kernel_rfl) (fun K hK=>?_)
 go_simp
 go_at_call 113
 refine(small_p M (by have:=HM.out;omega) _ p (by have:=HLP.out;omega) _ (HP.out.mono (ac _)) HSP.out).mono ?_;rintro e w4 ⟨v4,rfl,h4,kk4⟩;have H4:=ZZ h4;have hx1:=ZZ (show Ext W w4 from al (ac _) kk4);clear h4 kk4
 try go_wp2_with fail
 refine hK.out _ _ (HC.out _ hx1.out) (fun hHeld=>?_);clear hK K
 try simp only [Act.put,lyA,lyB,lyC]
 refine call_p (i:=5) (some 14) rfl rfl (by kernel_rfl) (fun K hK=>?_)
 go_simp
 go_at_call 113
 refine(small_p M (by have:=HM.out;omega) _ q (by have:=HLQ.out;omega) _ (HQ.out.mono hx1.out) HSQ.out).mono ?_;rintro e w5 ⟨v5,rfl,h5,kk5⟩;have H5:=ZZ h5;have H4b:=ZZ (H4.out.mono kk5);have hx2:=ZZ (al hx1.out kk5);clear h5 kk5
 try go_wp2_with fail
 refine hK.out _ _ (HC.out _ hx2.out) (fun hHeld=>?_);clear hK K
 try simp only [Act.put,lyA,lyB,lyC]
 refine take_a 6 5 ?_;refine take_a 7 6 ?_;refine wpAnyH_done (by kernel_rfl) ?_ _;refine NoPanic.normal ?_;have KW:=ZZ hx2.out;have cf5:=(HC.out w5 hx2.out).1
 gi_wp2
 gi_loopw [5,6] (fun vP vQ wr=>∃(k:Nat) (P Q:List Rat) (pre:List (Value × List Rat)),Hid (P.length≤100000)∧Hid (Q.length≤100000)∧Hid (trimF Q=Q)∧Hid (chB M k P Q=true)∧Hid (pre.map (fun x=>x.2) ++ chainU k P Q=D)∧Hid (∀x ∈ pre,Pl wr x.1 x.2)∧Hid (Pl wr vP P)∧Hid (Pl wr vQ Q)∧Hid (J pre wr)∧wr.cell? ⟨Bf,0,none⟩=some (.func (.func 113) #[] #[])) (fun _ vQ _=>lenOf vQ)
 case atStart=>exact⟨_,smallF p,smallF q,[],ZZ (Nat.le_trans (small_len p) HLP.out),ZZ (Nat.le_trans (small_len q) HLQ.out),ZZ (trim_small q),HCB,HD,ZZ (fun x hx=>by cases hx),H4b,H5,ZZ (HJE.out _ _ _ HJ0.out KW.out),cf5⟩
 case round=>
  obtain⟨k,P,Q,pre,HLP1,HLQ1,HTQ,HB,HU,HPRE,HPP,HPQ,HJ,cf6⟩:=hrel;rename World=>WR;clear cf5 KW H4b H5 hx2 hx1 H4 HJ0 HC HP HQ HD HSP HSQ HCB HLP HLQ;obtain⟨AP,nP,cP,eP,hnP⟩:=HPP.out.form;obtain⟨AQ,nQ,cQ,eQ,hnQ⟩:=HPQ.out.form;subst eP eQ;have HNP:=ZZ hnP;have HNQ:=ZZ hnQ;clear hnP hnQ
  rcases Nat.eq_zero_or_pos nP with hz|hz
  ·subst hz
   have HE:=ZZ (show pre.map (fun x=>x.2)=D from by
    rw [←HU.out,List.length_eq_zero_iff.1 HNP.out]
    cases k <;> exact(List.append_nil _).symm)
   gi_wp2
   go_end0
   exact⟨⟨_,rfl⟩,pre,⟨HE.out,HPRE.out⟩,HJ.out⟩
  ·have hPne:P≠[]:=fun e=>by have:=HNP.out;rw [e] at this;simp at this;omega
   have hPe:P.isEmpty=false:=by cases P with|nil=>exact absurd rfl hPne|cons a l=>rfl
   obtain⟨ko,rfl⟩:∃j,k=j+1:=⟨k - 1,by
    rcases Nat.eq_zero_or_pos k with h|h
    ·subst h
     have h1:P.isEmpty=true:=HB.out;rw [hPe] at h1;cases h1
    ·omega⟩
   have hb2:(P.isEmpty || Q.isEmpty || (divOk M P Q && smB M (divF P Q).2 && chB M ko Q (smallF (scaleF (divF P Q).2 (-1)))))=true:=HB.out;rw [hPe,Bool.false_or] at hb2;have hu2:pre.map (fun x=>x.2) ++ (if P=[] then [] else if Q=[] then [P] else P :: chainU ko Q (smallF (scaleF (divF P Q).2 (-1))))=D:=HU.out;rw [if_neg hPne] at hu2
   have hlen:pre.length<D.length:=by
    rw [←hu2,List.length_append,List.length_map]
    split
    ·rw [List.length_singleton];omega
    ·rw [List.length_cons];omega
   obtain⟨fn,tmps,assign,body,hy,hR⟩:=HY.out pre (.slice AP nP cP,P) _ HJ.out HPP.out hlen;have HB2:=ZZ hb2;have HU2:=ZZ hu2;have HZ:=ZZ hz;have z1:decide ((0:Int)<(nP:Int))=true:=decide_eq_true (by omega);have z1':decide (0<nP)=true:=decide_eq_true hz;clear hPne hPe hb2 hu2 hlen hz
   dsimp only [encC] at hy
   gi_wp2
   refine hR.mono ?_;rintro e W3 ⟨rfl,hJ3,hk3⟩;have HJ3:=ZZ hJ3;have HPP3:=ZZ (HPP.out.keepS hk3);have HPQ3:=ZZ (HPQ.out.keepS hk3)
   have HPRE3:=ZZ (show ∀x ∈ pre ++ [(Value.slice AP nP cP,P)],Pl W3 x.1 x.2 from fun x hx=>by
    rcases List.mem_append.1 hx with hx|hx
    ·exact(HPRE.out x hx).keepS hk3
    ·rw [List.mem_singleton.1 hx];exact HPP3.out)
   have cf5:W3.cell? ⟨Bf,0,none⟩=some (.func (.func 113) #[] #[]):=(World.cell?_of_block (a:=⟨Bf,0,none⟩) (keep_cell hk3 cf6 (by rintro⟨_,_,_,e⟩;cases e))).trans cf6;clear hk3 hJ3 hy hR cf6 HPP HPQ HPRE HJ
   rcases Nat.eq_zero_or_pos nQ with hz|hz
   ·subst hz
    have HE:=ZZ (show (pre ++ [(Value.slice AP nP cP,P)]).map (fun x=>x.2)=D from by
     rw [←HU2.out,if_pos (List.length_eq_zero_iff.1 HNQ.out),List.map_append];rfl)
    gi_wp2
    refine bodyPost_ret (results_none rfl _ _ _) rfl ?_;exact⟨⟨_,rfl⟩,_,⟨HE.out,HPRE3.out⟩,HJ3.out⟩
   ·have hQne:Q≠[]:=fun e=>by have:=HNQ.out;rw [e] at this;simp at this;omega
    have hQe:Q.isEmpty=false:=by cases Q with|nil=>exact absurd rfl hQne|cons a l=>rfl
    have hb3:=HB2.out;rw [hQe,Bool.false_or,Bool.and_eq_true,Bool.and_eq_true] at hb3;have hu3:=HU2.out;rw [if_neg hQne] at hu3;have HB3:=ZZ hb3;have HU3:=ZZ hu3;have HQN:=ZZ (show trimF Q≠[] from by rw [HTQ.out];exact hQne);have HBR:=ZZ (sm_of hb3.1.2)
    have HLT:=ZZ (show (smallF (scaleF (divF P Q).2 (-1))).length<nQ from by
     have h1:=divOk_lt hb3.1.1;have h2:=scale_len (divF P Q).2 (-1);have h3:=small_len (scaleF (divF P Q).2 (-1));have h4:=HNQ.out
     omega)
    have z2:((nQ:Int) == 0)=false:=by rw [beq_eq_false_iff_ne];omega
    have z2':(nQ == 0)=false:=by rw [beq_eq_false_iff_ne];omega
    have z3:nQ≠0:=by omega
    have hdv:=ZZ (divided_p M HM0.out (by have:=HM.out;omega) _ _ P Q HLP1.out HLQ1.out _ HPP3.out HPQ3.out HQN.out hb3.1.1);clear hQne hQe hb3 hu3 hz
    gi_wp2_with (refine⟨trivial,?_⟩;gi_at_call 72;refine(callsIn_wide.2 hdv.out).mono ?_;rintro e w5 ⟨v5,v6,rfl,h5,h6,k5⟩;have HRest:=ZZ h6.pl;have K5:=ZZ k5;clear h5 h6 k5)
    have cf7:=cf5;clear cf5 hdv;have cf5:=ao K5.out cf7;clear cf7;refine wpIn_wide.2 ?_;refine wp_region_noPanic ?_;refine wp_region_held_drew (S:=fun W=>W.cell? ⟨Bf,0,none⟩=some (.func (.func 113) #[] #[])) (by kernel_rfl) (ao (ac _) cf5) (fun hHeld=>?_);refine take_a 0 31 ?_;refine take_a 1 32 ?_;refine take_a 2 33 ?_;refine call_p (i:=3) (some 34) rfl rfl (by kernel_rfl) (fun K hK=>?_)
    go_simp
    go_at_call 15
    refine(int_q (-1) (by decide) (by decide) _).mono ?_;rintro e w6 ⟨v6,rfl,h6,kk6⟩;have H6:=ZZ (show Nm w6 v6 (-1) from h6);have hy1:=ZZ (show Ext w5 w6 from al (ac _) kk6);clear h6 kk6
    try go_wp2_with fail
    refine hK.out _ _ (ao hy1.out cf5) (fun hHeld=>?_);clear hK K
    try simp only [Act.put,lyA,lyB,lyC]
    refine call_p (i:=4) (some 35) rfl rfl (by kernel_rfl) (fun K hK=>?_)
    go_simp
    go_at_call 112
    refine(scale_q (M+64) (by have:=HM.out;omega) _ _ (divF P Q).2 (-1) (by have h1:=(div_len P Q).2;have h2:=HLP1.out;omega) _ (HRest.out.mono hy1.out) H6.out (fun x hx=>(HBR.out x hx).mono (by omega)) (BN.out.mono (by omega))).mono ?_;rintro e w7 ⟨v7,rfl,h7,kk7⟩;have H7:=ZZ h7.pl;have hy2:=ZZ (al hy1.out kk7);clear h7 kk7
    try go_wp2_with fail
    refine hK.out _ _ (ao hy2.out cf5) (fun hHeld=>?_);clear hK K
    try simp only [Act.put,lyA,lyB,lyC]
    refine call_p (i:=5) (some 36) rfl rfl (by kernel_rfl) (fun K hK=>?_)
    go_simp
    go_at_call 113
    refine(small_p (M+64) (by have:=HM.out;omega) _ (scaleF (divF P Q).2 (-1)) (by have h0:=scale_len (divF P Q).2 (-1);have h1:=(div_len P Q).2;have h2:=HLP1.out;omega) _ H7.out (bq_scale HBR.out BN.out)).mono ?_;rintro e w8 ⟨v8,rfl,h8,kk8⟩;have H8:=ZZ h8;have hy3:=ZZ (al hy2.out kk8);clear h8 kk8
    try go_wp2_with fail
    refine hK.out _ _ (ao hy3.out cf5) (fun hHeld=>?_);clear hK K
    try simp only [Act.put,lyA,lyB,lyC]
    refine take_a 6 5 ?_;refine take_a 7 6 ?_;refine wpAnyH_done (by kernel_rfl) ?_ _;refine NoPanic.normal ?_;have E8:=ZZ (al K5.out hy3.out);have cf9:=ao hy3.out cf5;clear cf5
    gi_wp2
    go_roundw
    case rel=>exact⟨ko,Q,smallF (scaleF (divF P Q).2 (-1)),_,HLQ1,ZZ (by have h1:=HLT.out;have h2:=HLQ1.out;have h3:=HNQ.out;omega),ZZ (trim_small _),ZZ HB3.out.2,ZZ (by rw [List.map_append,List.append_assoc];exact HU3.out),ZZ (fun x hx=>(HPRE3.out x hx).mono E8.out),ZZ (HPQ3.out.mono E8.out),H8,ZZ (HJE.out _ _ _ HJ3.out E8.out),cf9⟩
    case measure=>
     obtain⟨A8,n8,c8,e8,hn8⟩:=H8.out.form;rw [e8]
     show n8<nQ
     rw [←hn8];exact HLT.out
end Go.Proofs.YtkoaakefgacokaaGreatDoor
namespace Go.Proofs.YtkoaakefgacokaaGreatDoor
open Go.RowKit
theorem dec_len {n M:Nat} (h:n<2 ^ M):(Lib.decDigits n).length≤M+1:=dec_length_le (M+1) n (by omega) (by
 have h7:2 ^ M≤10 ^ M:=Nat.pow_le_pow_left (by decide) _;have h8:10 ^ M≤10 ^ (M+1):=Nat.pow_le_pow_right (by decide) (by omega)
 omega)
theorem text_pos_one (M:Nat) (hM:M≤1099511627776) (vx:Value) (x:Rat) (w:World) (hx:Nm w vx x) (bx:Bq M x) (htab:Tens w) (hb:decide (x.num<0)=false) (hd:x.den=1):Calls Tryz.prog 17 #[vx] w fun e w'=>e=.returned (.string ⟨(txt x).toArray⟩)∧Ext w w':=by
 have HT:=ZZ htab;have HD:=ZZ hd;have HB:=ZZ hb;have N1:=ZZ bx.1;have N2:=ZZ bx.2;have l1:=dec_len bx.1;have l2:=dec_len bx.2;have HM:=ZZ hM;obtain⟨A,k,ca,B,l,cb,rfl,hxn,hxd,hkx,hlx⟩:=hx.form;rw [hb] at hx ⊢;have Hx:=ZZ hx;have Hxn:=ZZ hxn;obtain rfl:l=0:=hlx.2 hd;obtain⟨dn_,hdn⟩:∃q,q=Lib.decDigits x.num.natAbs:=⟨_,rfl⟩;obtain⟨dd_,hdd⟩:∃q,q=Lib.decDigits x.den:=⟨_,rfl⟩;have HDN:=ZZ hdn;have HDD:=ZZ hdd;rw [←hdn] at l1;rw [←hdd] at l2
 have HR:=ZZ (show (⟨dn_.toArray⟩:ByteArray)=⟨(txt x).toArray⟩ by
  unfold txt;have hb':¬ x.num<0:=by simpa using hb
  rw [if_neg hb',if_pos hd,←hdn]
  simp)
 clear hx hxn hxd hkx hlx htab hd hb bx hM hdn hdd l1 l2;obtain⟨hS,-,hw1,-⟩:=setup1 w (.bool false) (.slice A k ca) (.slice B 0 cb);have HS:=ZZ hS;have hww:=ZZ hw1;clear hS hw1
 go_enter Tryz.func17,Tryz.ntmps17
 go_wp2_with fail;generalize World.alloc w (.cells #[.bool false,.slice A k ca,.slice B 0 cb] _)=W2 at *
 generalize w.heap.size=g0 at *;refine(row_c M HM.out _ _ _ (Hxn.out.mono hww.out) N1.out (HT.out.mono hww.out)).mono ?_;rintro e w1 ⟨rfl,k1⟩;rw [←HDN.out];obtain⟨r0,r1,r2⟩:=HS.out _ k1;have K1:=ZZ k1;clear k1;go_wp2_with fail;go_ret;exact⟨by rw [←HR.out];rfl,al hww.out K1.out⟩
theorem text_pos_more (M:Nat) (hM:M≤1099511627776) (vx:Value) (x:Rat) (w:World) (hx:Nm w vx x) (bx:Bq M x) (htab:Tens w) (hb:decide (x.num<0)=false) (hd:¬ x.den=1):Calls Tryz.prog 17 #[vx] w fun e w'=>e=.returned (.string ⟨(txt x).toArray⟩)∧Ext w w':=by
 have HT:=ZZ htab;have HD:=ZZ hd;have HB:=ZZ hb;have N1:=ZZ bx.1;have N2:=ZZ bx.2;have l1:=dec_len bx.1;have l2:=dec_len bx.2;have HM:=ZZ hM;obtain⟨A,k,ca,B,l,cb,rfl,hxn,hxd,hkx,hlx⟩:=hx.form;rw [hb] at hx ⊢;have Hx:=ZZ hx;have Hxn:=ZZ hxn
 have hxd':Wd w (.slice B l cb) x.den:=by
  unfold dn at hxd
  rwa [if_neg hd] at hxd
 have Hxd:=ZZ hxd';have hl0:¬ l=0:=fun h=>hd (hlx.1 h);have t5:(0:Int)<(l:Int):=by omega
 clear hxd' hl0;obtain⟨dn_,hdn⟩:∃q,q=Lib.decDigits x.num.natAbs:=⟨_,rfl⟩;obtain⟨dd_,hdd⟩:∃q,q=Lib.decDigits x.den:=⟨_,rfl⟩;have HDN:=ZZ hdn;have HDD:=ZZ hdd;rw [←hdn] at l1;rw [←hdd] at l2;have c2:1+dd_.length≤9223372036854775807:=by omega
 have e2:(⟨#[47]⟩:ByteArray) ++ ⟨dd_.toArray⟩=⟨(47 :: dd_).toArray⟩:=str_append [47] dd_;have c3:dn_.length+(47 :: dd_).length≤9223372036854775807:=by have q:(47 :: dd_).length=dd_.length+1:=rfl;have q2:(45 :: dn_).length=dn_.length+1:=rfl;omega
 have c4:dn_.length+(dd_.length+1)≤9223372036854775807:=by have q2:(45 :: dn_).length=dn_.length+1:=rfl;omega
 have c5:dn_.length+(dd_.length+1)≤9223372036854775807:=by omega
 have e3:(⟨dn_.toArray⟩:ByteArray) ++ ⟨(47 :: dd_).toArray⟩=⟨(dn_ ++ 47 :: dd_).toArray⟩:=str_append _ _
 have HR:=ZZ (show (⟨(dn_ ++ 47 :: dd_).toArray⟩:ByteArray)=⟨(txt x).toArray⟩ by
  unfold txt;have hb':¬ x.num<0:=by simpa using hb
  rw [if_neg hb',if_neg hd,←hdn,←hdd]
  simp)
 clear hx hxn hxd hkx hlx htab hd hb bx hM hdn hdd l1 l2;obtain⟨hS,-,hw1,-⟩:=setup1 w (.bool false) (.slice A k ca) (.slice B l cb);have HS:=ZZ hS;have hww:=ZZ hw1;clear hS hw1
 go_enter Tryz.func17,Tryz.ntmps17
 go_wp2_with fail;generalize World.alloc w (.cells #[.bool false,.slice A k ca,.slice B l cb] _)=W2 at *
 generalize w.heap.size=g0 at *;refine(row_c M HM.out _ _ _ (Hxn.out.mono hww.out) N1.out (HT.out.mono hww.out)).mono ?_;rintro e w1 ⟨rfl,k1⟩;rw [←HDN.out];obtain⟨r0,r1,r2⟩:=HS.out _ k1;have K1:=ZZ k1;clear k1;go_wp2_with fail;refine(row_c M HM.out _ _ _ (Hxd.out.mono (al hww.out K1.out)) N2.out (HT.out.mono (al hww.out K1.out))).mono ?_;rintro e w2 ⟨rfl,k2⟩;rw [←HDD.out];have K2:=ZZ (al K1.out k2);clear k2;go_wp2_with fail;go_ret;exact⟨by rw [←HR.out];rfl,al hww.out K2.out⟩
theorem text_neg_one (M:Nat) (hM:M≤1099511627776) (vx:Value) (x:Rat) (w:World) (hx:Nm w vx x) (bx:Bq M x) (htab:Tens w) (hb:decide (x.num<0)=true) (hd:x.den=1):Calls Tryz.prog 17 #[vx] w fun e w'=>e=.returned (.string ⟨(txt x).toArray⟩)∧Ext w w':=by
 have HT:=ZZ htab;have HD:=ZZ hd;have HB:=ZZ hb;have N1:=ZZ bx.1;have N2:=ZZ bx.2;have l1:=dec_len bx.1;have l2:=dec_len bx.2;have HM:=ZZ hM;obtain⟨A,k,ca,B,l,cb,rfl,hxn,hxd,hkx,hlx⟩:=hx.form;rw [hb] at hx ⊢;have Hx:=ZZ hx;have Hxn:=ZZ hxn;obtain rfl:l=0:=hlx.2 hd;obtain⟨dn_,hdn⟩:∃q,q=Lib.decDigits x.num.natAbs:=⟨_,rfl⟩;obtain⟨dd_,hdd⟩:∃q,q=Lib.decDigits x.den:=⟨_,rfl⟩;have HDN:=ZZ hdn;have HDD:=ZZ hdd;rw [←hdn] at l1;rw [←hdd] at l2;have c1:1+dn_.length≤9223372036854775807:=by omega
 have e1:(⟨#[45]⟩:ByteArray) ++ ⟨dn_.toArray⟩=⟨(45 :: dn_).toArray⟩:=str_append [45] dn_
 have HR:=ZZ (show (⟨(45 :: dn_).toArray⟩:ByteArray)=⟨(txt x).toArray⟩ by
  unfold txt;have hb':x.num<0:=by simpa using hb
  rw [if_pos hb',if_pos hd,←hdn]
  simp)
 clear hx hxn hxd hkx hlx htab hd hb bx hM hdn hdd l1 l2;obtain⟨hS,-,hw1,-⟩:=setup1 w (.bool true) (.slice A k ca) (.slice B 0 cb);have HS:=ZZ hS;have hww:=ZZ hw1;clear hS hw1
 go_enter Tryz.func17,Tryz.ntmps17
 go_wp2_with fail;generalize World.alloc w (.cells #[.bool true,.slice A k ca,.slice B 0 cb] _)=W2 at *
 generalize w.heap.size=g0 at *;refine(row_c M HM.out _ _ _ (Hxn.out.mono hww.out) N1.out (HT.out.mono hww.out)).mono ?_;rintro e w1 ⟨rfl,k1⟩;rw [←HDN.out];obtain⟨r0,r1,r2⟩:=HS.out _ k1;have K1:=ZZ k1;clear k1;go_wp2_with fail;go_ret;exact⟨by rw [←HR.out];rfl,al hww.out K1.out⟩
theorem text_neg_more (M:Nat) (hM:M≤1099511627776) (vx:Value) (x:Rat) (w:World) (hx:Nm w vx x) (bx:Bq M x) (htab:Tens w) (hb:decide (x.num<0)=true) (hd:¬ x.den=1):Calls Tryz.prog 17 #[vx] w fun e w'=>e=.returned (.string ⟨(txt x).toArray⟩)∧Ext w w':=by
 have HT:=ZZ htab;have HD:=ZZ hd;have HB:=ZZ hb;have N1:=ZZ bx.1;have N2:=ZZ bx.2;have l1:=dec_len bx.1;have l2:=dec_len bx.2;have HM:=ZZ hM;obtain⟨A,k,ca,B,l,cb,rfl,hxn,hxd,hkx,hlx⟩:=hx.form;rw [hb] at hx ⊢;have Hx:=ZZ hx;have Hxn:=ZZ hxn
 have hxd':Wd w (.slice B l cb) x.den:=by
  unfold dn at hxd
  rwa [if_neg hd] at hxd
 have Hxd:=ZZ hxd';have hl0:¬ l=0:=fun h=>hd (hlx.1 h);have t5:(0:Int)<(l:Int):=by omega
 clear hxd' hl0;obtain⟨dn_,hdn⟩:∃q,q=Lib.decDigits x.num.natAbs:=⟨_,rfl⟩;obtain⟨dd_,hdd⟩:∃q,q=Lib.decDigits x.den:=⟨_,rfl⟩;have HDN:=ZZ hdn;have HDD:=ZZ hdd;rw [←hdn] at l1;rw [←hdd] at l2;have c1:1+dn_.length≤9223372036854775807:=by omega
 have e1:(⟨#[45]⟩:ByteArray) ++ ⟨dn_.toArray⟩=⟨(45 :: dn_).toArray⟩:=str_append [45] dn_;have c2:1+dd_.length≤9223372036854775807:=by omega
 have e2:(⟨#[47]⟩:ByteArray) ++ ⟨dd_.toArray⟩=⟨(47 :: dd_).toArray⟩:=str_append [47] dd_;have c3:(45 :: dn_).length+(47 :: dd_).length≤9223372036854775807:=by have q:(47 :: dd_).length=dd_.length+1:=rfl;have q2:(45 :: dn_).length=dn_.length+1:=rfl;omega
 have c4:(45 :: dn_).length+(dd_.length+1)≤9223372036854775807:=by have q2:(45 :: dn_).length=dn_.length+1:=rfl;omega
 have c5:dn_.length+1+(dd_.length+1)≤9223372036854775807:=by omega
 have e3:(⟨(45 :: dn_).toArray⟩:ByteArray) ++ ⟨(47 :: dd_).toArray⟩=⟨((45 :: dn_) ++ 47 :: dd_).toArray⟩:=str_append _ _
 have HR:=ZZ (show (⟨((45 :: dn_) ++ 47 :: dd_).toArray⟩:ByteArray)=⟨(txt x).toArray⟩ by
  unfold txt;have hb':x.num<0:=by simpa using hb
  rw [if_pos hb',if_neg hd,←hdn,←hdd]
  simp)
 clear hx hxn hxd hkx hlx htab hd hb bx hM hdn hdd l1 l2;obtain⟨hS,-,hw1,-⟩:=setup1 w (.bool true) (.slice A k ca) (.slice B l cb);have HS:=ZZ hS;have hww:=ZZ hw1;clear hS hw1
 go_enter Tryz.func17,Tryz.ntmps17
 go_wp2_with fail;generalize World.alloc w (.cells #[.bool true,.slice A k ca,.slice B l cb] _)=W2 at *
 generalize w.heap.size=g0 at *;refine(row_c M HM.out _ _ _ (Hxn.out.mono hww.out) N1.out (HT.out.mono hww.out)).mono ?_;rintro e w1 ⟨rfl,k1⟩;rw [←HDN.out];obtain⟨r0,r1,r2⟩:=HS.out _ k1;have K1:=ZZ k1;clear k1;go_wp2_with fail;refine(row_c M HM.out _ _ _ (Hxd.out.mono (al hww.out K1.out)) N2.out (HT.out.mono (al hww.out K1.out))).mono ?_;rintro e w2 ⟨rfl,k2⟩;rw [←HDD.out];have K2:=ZZ (al K1.out k2);clear k2;go_wp2_with fail;go_ret;exact⟨by rw [←HR.out];rfl,al hww.out K2.out⟩
theorem text_c (M:Nat) (hM:M≤1099511627776) (vx:Value) (x:Rat) (w:World) (hx:Nm w vx x) (bx:Bq M x) (htab:Tens w):Calls Tryz.prog 17 #[vx] w fun e w'=>e=.returned (.string ⟨(txt x).toArray⟩)∧Ext w w':=by
 rcases hb:decide (x.num<0) with _|_
 ·by_cases hd:x.den=1
  ·exact text_pos_one M hM vx x w hx bx htab hb hd
  ·exact text_pos_more M hM vx x w hx bx htab hb hd
 ·by_cases hd:x.den=1
  ·exact text_neg_one M hM vx x w hx bx htab hb hd
  ·exact text_neg_more M hM vx x w hx bx htab hb hd
theorem mk_room (n c:Nat) (y z:Int) (hz:z=(n:Int)) (hy:y=(c:Int)) (hnc:n≤c) (hn:c≤35184372088832) (w:World):(Instr.makeSlice 57 (.int .i64 z) (.int .i64 y)).run Tryz.prog w=.ok (.slice (some ⟨w.heap.size,0,none⟩) n c) (w.alloc (.cells ((zs c).map i64n).toArray 2)):=by
 subst hz hy;obtain⟨i,hi,h1,h2,h3⟩:=info_parts info_i64;have h:=run_make (P:=Tryz.prog) w 57 2 i (.int .i64 0) Tryz.underlying57 hi h1 .i64 .i64 (n:Int) (c:Int) (by omega) (by omega) (by rw [h3];omega) (by omega);rw [h]
 have e:madeCells (Value.int .i64 0).cells (c*i.size)=((zs c).map i64n).toArray:=by
  rw [h2,Nat.mul_one]
  have:=toList_madeCells_one (.int .i64 0) c
  have h':(madeCells (Value.int .i64 0).cells c).toList=(zs c).map i64n:=by
   rw [show (Value.int .i64 0).cells=#[Value.int .i64 0] from rfl,this];simp [zs,i64n]
  rw [←h']
 simp only [Int.toNat_natCast,e]
theorem own_new (w:World) (n c:Nat) (hnc:n≤c) (hc:c≤maxLen):(w.alloc (.cells ((zs c).map i64n).toArray 2)).ownsRow w.heap.size 2 1 (.slice (some ⟨w.heap.size,0,none⟩) n c) n ((zs n).map i64n):=by
 refine⟨by simp [zs],.inr ⟨w.heap.size,c,_,rfl,Nat.le_refl _,heap_alloc_new w _,hnc,hc,by simp [zs],?_⟩⟩
 simp [zs,List.take_replicate,Nat.min_eq_left hnc]
theorem own_cl {w:World} {B n:Nat} {v:Value} {l:List Nat} (h:w.ownsRow B 2 1 v n (l.map i64n)):∃A c,v=.slice A n c∧n≤c∧l.length=n∧Cl w A (l.map i64n):=by
 obtain⟨h1,h2⟩:=h
 simp at h1
 rcases h2 with ⟨rfl,rfl⟩|⟨g,cap,cur,rfl,hb,hg,hn,hm,hs,ht⟩
 ·exact⟨none,0,rfl,Nat.le_refl _,h1,by rw [List.length_eq_zero_iff.1 h1];exact .inl rfl⟩
 ·refine⟨_,_,rfl,hn,h1,cl_block hg fun j hj=>?_⟩
  rw [Nat.mul_one] at ht;have hj':j<n:=by simp at hj;omega
  rw [←ht,List.getD_eq_getElem?_getD,List.getElem?_take,if_pos hj',Nat.zero_add,←Array.getElem?_toList]
  have:j<cur.size:=by omega
  simp [Array.getElem?_eq_getElem this]
theorem left_step {F B P R V cy x d c':Nat} (h:R+P*cy=V*F) (hs:d+B*c'=cy+x*F):(R+P*d)+P*B*c'=(V+P*x)*F:=by
 have h1:P*(d+B*c')=P*(cy+x*F):=by rw [hs]
 grind
theorem left_carry {F x cy d c':Nat} (hx:x<1073741824) (hc:cy<F) (hF:F≤536870912) (h:d+B30*c'=cy+x*F):c'<F∧cy+x*F<576460752303423488:=by
 have h1:x*F≤1073741823*F:=Nat.mul_le_mul_right _ (by omega);rw [B30_eq] at h;omega
theorem own_any {A:Option Addr} {n m c d:Nat}:(Value.slice A n c).ownBlock=(Value.slice A m d).ownBlock:=by cases A <;> rfl
theorem left_f (va:Value) (n k:Nat) (hk:k≤1099511627776) (w:World) (ha:Wr w va n) (sa:Sr n):Calls Tryz.prog 103 #[va,.int .i64 k] w fun e w'=>∃v,e=.returned v∧Wr w' v (n*2 ^ k)∧Ext w w'∧Fr w.heap.size v:=by
 obtain⟨A,ca,rfl,hca,hA⟩:=ha;unfold Sr at sa;have en:=num_dr n;have nl:=dr_lt n;generalize dr n=l at *;obtain⟨s,e,hse,he⟩:∃s e:Nat,k=30*s+e∧e<30:=⟨k / 30,k % 30,by omega,by omega⟩;have hq:(k:Int) / 30=(s:Int):=by omega
 have hr:(k:Int) % 30=(e:Int):=by omega
 have hwq:IntKind.i64.wrap (s:Int)=(s:Int):=IntWalk.i64_in _ (by omega);have hsb:s≤1099511627776:=by omega
 have HSE:=ZZ hse;have En:=ZZ en;have Nl:=ZZ nl;clear en nl hse;obtain⟨F,G,hF,hF0,hG0,hFG,hFb,hG⟩:=pow_split e he;have hF':((2:Int) ^ e)=(F:Int):=by rw [hF];push_cast;rfl
 have hsh:IntKind.i64.wrap ((2:Int) ^ e)=(F:Int):=by rw [hF'];exact IntWalk.i64_in _ (by omega)
 have hu:IntKind.u64.wrap (e:Int)=(e:Int):=IntWalk.u64_in _ (by omega);have HF:=ZZ hF;obtain⟨i0,hi,hz0,hz1,hz2⟩:=info_parts info_i64;have hmk:=mk_room s (l.length+s+1) ((l.length:Int)+(s:Int)+1) (s:Int) rfl (by omega) (by omega) (by omega);have hw1:IntKind.i64.wrap ((l.length:Int)+(s:Int))=(l.length:Int)+(s:Int):=IntWalk.i64_in _ (by omega);have hw2:IntKind.i64.wrap ((l.length:Int)+(s:Int)+1)=(l.length:Int)+(s:Int)+1:=IntWalk.i64_in _ (by omega);clear hF hF' hFG hG hG0
 go_enter Tryz.func103,Tryz.ntmps103
 go_wp2_with fail;clear hmk hw1 hw2 hq hr hwq hsh hu
 go_loopw [5,7,8] (fun p c i wr=>∃(t cy:Nat) (xs:List Nat),t≤l.length∧i=.int .i64 t∧c=.int .i64 cy∧cy<F∧xs.length=t∧(∀d ∈ xs,d<B30)∧Hid (wr.ownsRow w.heap.size 2 1 p (s+t) ((zs s ++ xs).map i64n))∧Ext w wr∧num B30 xs+B30 ^ t*cy=num B30 (l.take t)*F) (fun _ _ i _=>l.length - (intOf i).toNat)
 case atStart=>exact⟨0,0,[],Nat.zero_le _,rfl,rfl,hF0,rfl,by simp,by simpa using ZZ (own_new w s (l.length+s+1) (by omega) (by unfold maxLen;omega)),ab _ _,by simp⟩
 case round=>
  obtain⟨t,cy,xs,ht,rfl,rfl,hcy,hxl,hxb,HOWN,hext,hnum⟩:=hrel;have Hxl:=ZZ hxl;have Hxb:=ZZ hxb;have HEX:=ZZ hext;have Hnum:=ZZ hnum;clear hxl hxb hnum hext;have H63:=ZZ (show s+t+1≤maxLen by unfold maxLen;omega);have HBY:=ZZ (show (s+t+1)*8≤140737488355328 by omega);have HWS:=ZZ (show w.heap.size≤wr.heap.size+1 from Nat.le_succ_of_le HEX.out.size);have HWZ:=ZZ (show w.heap.size≤wr.heap.size from HEX.out.size)
  by_cases hlt:t<l.length
  ·obtain⟨b,o,rfl,hc⟩:=hA.i (by omega)
   have ea:=ao HEX.out (hc t hlt);have hxb:=getD_lt Nl.out (by rw [B30_eq];omega) t;have HTT:=ZZ (num_take_le B30 l t);rw [B30_eq] at hxb;clear hc hA;generalize l.getD t 0=x at *;obtain⟨p,hp⟩:∃p:Nat,p=x*F:=⟨_,rfl⟩;obtain⟨sm,hsm⟩:∃sm:Nat,sm=cy+p:=⟨_,rfl⟩;obtain⟨d,c',hd,hdc,hd1,hc1'⟩:=split30 sm;have HDC:=ZZ (show d+B30*c'=cy+x*F by rw [hdc,hsm,hp]);obtain⟨hcb,hsb'⟩:=left_carry hxb hcy hFb HDC.out;have hsmb:sm<576460752303423488:=by rw [hsm,hp];exact hsb'
   have hw1:IntKind.i64.wrap ((x:Int)*(F:Int))=(p:Int):=by
    rw [show (x:Int)*(F:Int)=(p:Int) by rw [hp];push_cast;rfl];exact IntWalk.i64_in _ (by omega)
   have hw2:IntKind.i64.wrap ((cy:Int)+(p:Int))=(sm:Int):=(IntWalk.i64_in _ (by omega)).trans (by omega);have hrem:(sm:Int) % 1073741824=(d:Int):=by omega
   have hquo:(sm:Int) / 1073741824=(c':Int):=by omega
   have Hd:=ZZ hd;have HCB:=ZZ hcb;have hcb2:c'≤1073741824:=by omega
   rw [B30_eq] at hd
   have HST:=ZZ (show num B30 (xs ++ [d])+B30 ^ (t+1)*c'=num B30 (l.take (t+1))*F by
    rw [num_snoc,Hxl.out,HTT.out,Nat.pow_succ];exact left_step Hnum.out HDC.out)
   clear hp hsm hdc hd1 hc1' hsb'
   go_wp2_with (at_builtin;refine wpList_append_own_at _ rfl _ _ 57 rfl w.heap.size 2 i0 (.int .i64 0) 1 8 Tryz.underlying57 hi hz0 hz1 hz2 rfl (by decide) _ _ _ rfl (HOWN.out.alloc _) ⟨wr.heap.size,0,none⟩ 1 1 [.int .i64 (d:Int)] rfl rfl (cell_one_new _ _ _) (by intro u hu;simp at hu;subst hu;rfl) H63.out HBY.out (by have:=HWS.out;simpa using this) ?_;intro v' w3 hown3 hgrow hnil hloc)
   have HE3:=ZZ (show Ext w w3 from (al HEX.out (ab wr _)).grown hgrow (by have:=HWS.out;simpa using this) (fun k hk=>(own_lt HOWN.out hk).1));have HO3:=ZZ hown3;clear hown3 hgrow hnil hloc;go_wp2_with fail
   go_roundw
   case rel=>exact⟨t+1,c',xs ++ [d],by omega,by first|rfl|go_num,rfl,HCB.out,by rw [List.length_append,Hxl.out];rfl,by intro z hz;rcases List.mem_append.1 hz with h|h;exact Hxb.out z h;rw [List.mem_singleton.1 h];exact Hd.out,by have:=HO3.out;rw [←List.append_assoc,List.map_append];exact ZZ this,HE3.out,HST.out⟩
   case measure=>simp [intOf];omega
  ·have htm:t=l.length:=by omega
   go_wp2_with (at_builtin;refine wpList_append_own_at _ rfl _ _ 57 rfl w.heap.size 2 i0 (.int .i64 0) 1 8 Tryz.underlying57 hi hz0 hz1 hz2 rfl (by decide) _ _ _ rfl (HOWN.out.alloc _) ⟨wr.heap.size,0,none⟩ 1 1 [.int .i64 (cy:Int)] rfl rfl (cell_one_new _ _ _) (by intro u hu;simp at hu;subst hu;rfl) H63.out HBY.out (by have:=HWS.out;simpa using this) ?_;intro v' w3 hown3 hgrow hnil hloc)
   have HE3:=ZZ (show Ext w w3 from (al HEX.out (ab wr _)).grown hgrow (by have:=HWS.out;simpa using this) (fun k hk=>(own_lt HOWN.out hk).1));have hown4:w3.ownsRow w.heap.size 2 1 v' (s+t+1) ((zs s ++ xs ++ [cy]).map i64n):=by rw [List.map_append];exact hown3
   obtain⟨A3,c3,rfl,hn3,hl3,hcl3⟩:=own_cl hown4;have HFR:=ZZ (show Fr w.heap.size (.slice A3 (s+t+1) c3) from fun b hb=>(own_lt hown4 hb).1);have HCL:=ZZ hcl3;have HL3:=ZZ hl3;have HN3:=ZZ hn3
   have HYB:=ZZ (show ∀z ∈ zs s ++ xs ++ [cy],z<B30 from fun z hz=>by
    rcases List.mem_append.1 hz with h|h
    ·rcases List.mem_append.1 h with h|h
     ·exact zs_lt (by rw [B30_eq];omega) s z h
     ·exact Hxb.out z h
    ·rw [List.mem_singleton.1 h,B30_eq];omega)
   clear hown3 hown4 hgrow hnil hloc hn3 hl3 hcl3;go_wp2_with fail;refine(rcut_c _ (zs s ++ xs ++ [cy]) _ _ HCL.out (s+t+1) HL3.out HN3.out (by omega)).mono ?_;rintro e w2 ⟨rfl,rfl⟩;go_wp2_with fail;go_ret;refine⟨_,rfl,?_,HE3.out,fun b hb=>HFR.out b (own_any.trans hb)⟩;have h2:=rcut_w HYB.out HCL.out (c:=c3) (by rw [HL3.out];exact HN3.out);have h1:=Hnum.out;rw [num_take_all B30 l (by omega),En.out] at h1
   have h3:num B30 (zs s ++ xs ++ [cy])=n*2 ^ k:=by
    rw [List.append_assoc,num_append,show num B30 (zs s)=0 from num_replicate_zero _ _,zs_length,num_snoc,Hxl.out,h1,HSE.out,Nat.pow_add,←B30_pow,HF.out,Nat.zero_add]
    grind
   rw [h3,List.append_assoc] at h2;exact h2
theorem left_r (va:Value) (n k:Nat) (hk:k≤1099511627776) (w:World) (ha:Wr w va n) (sa:Sr n):Calls Tryz.prog 103 #[va,.int .i64 k] w fun e w'=>∃v,e=.returned v∧Wr w' v (n*2 ^ k)∧Ext w w':=(left_f va n k hk w ha sa).mono fun e w' ⟨v,h1,h2,h3,_⟩=>⟨v,h1,h2,h3⟩
end Go.Proofs.YtkoaakefgacokaaGreatDoor
