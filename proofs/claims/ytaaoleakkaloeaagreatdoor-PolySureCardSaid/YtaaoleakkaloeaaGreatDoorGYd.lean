/- Square-free parts. Sturm's chain. Printed by gen_yd.py. Plain laws of spans: results of numbers are in the results of their spans. Spans: joins, sums, meets. Printed by gen_vs.py. Spans: products. Printed by gen_vm.py. Plain laws of spans: what the reference computes of the ends is what the program computes. Spans: whether a number is within, points, negatives, sums, differences, rounding outward. Printed by gen_sa.py. Spans of the values of a polynomial. Printed by gen_yb.py. The reference's numbers: where their digits lie; slices of them in memory. -/
import Derived.Test.YtaaoleakkaloeaaGreatDoorGRk
import Derived.Laws.EntriesVeiled
import Derived.Test.YtaaoleakkaloeaaGreatDoorGVx
import Derived.Test.YtaaoleakkaloeaaGreatDoorGNe
import Derived.Deep.RegionHeld3
import Derived.Deep.DeepCutAuto
import Derived.Test.YtaaoleakkaloeaaGreatDoorGRb
import Derived.Test.YtaaoleakkaloeaaGreatDoorGRm
set_option linter.unusedVariables false
set_option maxRecDepth 100000
set_option maxHeartbeats 64000000
namespace Go.Proofs.YtaaoleakkaloeaaGreatDoor
open Go.RowKit
set_option linter.unusedSimpArgs false
theorem zip_len (p q:List Rat) (N:Nat) (hp:p.length≤N) (hq:q.length≤N):(zipA p q).length≤N:=by
 induction p generalizing q N with
 | nil=>exact hq
 | cons a p ih=>
  cases q with
  | nil=>exact hp
  | cons b q=>
   obtain⟨n,rfl⟩:∃n,N=n+1:=⟨N - 1,by simp at hp;omega⟩
   have:=ih q n (by simpa using hp) (by simpa using hq)
   show (zipA p q).length+1≤n+1
   omega
theorem add_len (p q:List Rat) (N:Nat) (hp:p.length≤N) (hq:q.length≤N):(addF p q).length≤N:=Nat.le_trans (trim_le _) (zip_len p q N hp hq)
theorem sub_len (p q:List Rat) (N:Nat) (hp:p.length≤N) (hq:q.length≤N):(subF p q).length≤N:=add_len p _ N hp (Nat.le_trans (scale_len _ _) hq)
def partsU:Nat→List Rat→List Rat→List (List Rat)
 | 0,_,_=>[]
 | n+1,b,c=>if 1<(trimF b).length then commonF b (subF c (derivF b)) :: partsU n (divF b (commonF b (subF c (derivF b)))).1 (divF (subF c (derivF b)) (commonF b (subF c (derivF b)))).1 else []
end Go.Proofs.YtaaoleakkaloeaaGreatDoor
set_option linter.unusedVariables false
set_option maxRecDepth 100000
set_option maxHeartbeats 64000000
namespace Go.Proofs.YtaaoleakkaloeaaGreatDoor
open Go Go.RowKit Go.Shelf
set_option linter.unusedSimpArgs false
attribute [local go_sem] Oper.semAt_some
def smallF (p:List Rat):List Rat:=if trimF p=[] then [] else scaleF (trimF p) (1 / absQ (topF (trimF p)))
theorem small_len (p:List Rat):(smallF p).length≤p.length:=by
 unfold smallF
 split
 ·exact Nat.zero_le _
 ·exact Nat.le_trans (scale_len _ _) (trim_le p)
theorem trim_small (p:List Rat):trimF (smallF p)=smallF p:=by
 unfold smallF
 split
 ·rfl
 ·exact trim_trim _
theorem bq_absQ {M:Nat} {x:Rat} (h:Bq M x):Bq M (absQ x):=by unfold absQ;split;exact h.neg;exact h
theorem absQ_neP {x:Rat} (h:x≠0):absQ x≠0:=by unfold absQ;split;exact fun e=>h (by grind);exact h
theorem small_p (M:Nat) (hM:M≤1099511627000) (vp:Value) (p:List Rat) (hlp:p.length≤1000000) (w:World) (hp:Pl w vp p) (hbp:∀x ∈ p,Bq M x):Calls Tryz.prog 117 #[vp] w fun e w'=>∃v',e=.returned v'∧Pl w' v' (smallF p)∧Ext w w':=by
 have HP:=ZZ hp;have HLP:=ZZ hlp;have HBP:=ZZ hbp;have HM:=ZZ hM;clear hp hlp hbp hM
 go_enter Tryz.func117,Tryz.ntmps117
 go_wp2_with fail;refine(trim_q _ p HLP.out _ HP.out).mono ?_
 rintro e w3 ⟨v3,rfl,h3,k3⟩;obtain⟨A,n,cap,e3,hn⟩:=h3.pl.form;subst e3;have HN:=ZZ hn;have H3:=ZZ h3.pl;have K3:=ZZ k3;have HT:=ZZ (show n≤p.length by rw [←hn];exact trim_le p);clear h3 k3 hn
 rcases Nat.eq_zero_or_pos n with h0|h0
 ·subst h0
  go_wp2_with fail;go_ret
  have e0:trimF p=[]:=List.length_eq_zero_iff.1 HN.out;refine⟨_,rfl,?_,K3.out⟩;rw [show smallF p=[] from if_pos e0,←e0];exact H3.out
 ·obtain⟨k,rfl⟩:∃k,n=k+1:=⟨n - 1,by omega⟩
  have z0:decide ((0:Int)<((k+1:Nat):Int))=true:=decide_eq_true (by omega);have z1:decide ((0:Int)<(k:Int)+1)=true:=decide_eq_true (by omega);have HNE:=ZZ (show trimF p≠[] from fun e=>by have:=HN.out;rw [e] at this;simp at this);have HTOP:=ZZ (top_get HN.out);have HT0:=ZZ (top_trim_ne HNE.out);have BT:=ZZ (HBP.out _ (trim_mem (List.mem_of_getElem? HTOP.out)));have BONE:=ZZ (show Bq 64 (1:Rat) from bq_int 1 (by decide) (by decide));clear h0;go_wp2_with fail;refine(int_q 1 (by decide) (by decide) _).mono ?_;rintro e w4 ⟨v4,rfl,h4,k4⟩;have H4:=ZZ (show Nm w4 v4 1 from h4);have K4:=ZZ k4;clear h4 k4;go_wp2_with fail;have H3':=ZZ (show Pl w4 (.slice A (k+1) cap) (trimF p) from H3.out.mono K4.out);refine(top_q _ (trimF p) (by rw [HN.out];exact Nat.le_trans HT.out HLP.out) k _ HN.out HTOP.out _ H3'.out).mono ?_;rintro e w5 ⟨v5,rfl,h5,k5⟩;have H5:=ZZ h5;have K5:=ZZ k5;clear h5 k5;go_wp2_with fail;refine(abs_q _ (topF (trimF p)) _ H5.out).mono ?_;rintro e w8 ⟨v8,rfl,h8,k8⟩;have H8:=ZZ h8;have K8:=ZZ (al K5.out k8);clear h8 k8;go_wp2_with fail;refine(over_q (M+64) (by have:=HM.out;omega) _ _ 1 (absQ (topF (trimF p))) _ (H4.out.mono K8.out) H8.out (BONE.out.mono (by omega)) ((bq_absQ BT.out).mono (by omega)) (absQ_neP HT0.out)).mono ?_;rintro e w6 ⟨v6,rfl,h6,k6⟩;have H6:=ZZ h6;have K6:=ZZ (al K4.out (al K8.out k6));clear h6 k6;go_wp2_with fail
  refine(scale_q M (by have:=HM.out;omega) _ _ (trimF p) (1 / absQ (topF (trimF p))) (by rw [HN.out];exact Nat.le_trans HT.out HLP.out) _ (H3.out.mono K6.out) H6.out (fun x hx=>HBP.out x (trim_mem hx)) (bq_inv2 (bq_absQ BT.out) (absQ_neP HT0.out))).mono ?_;rintro e w7 ⟨v7,rfl,h7,k7⟩;have H7:=ZZ h7.pl;have K7:=ZZ (al K3.out (al K6.out k7));clear h7 k7;go_wp2_with fail;go_ret;refine⟨_,rfl,?_,K7.out⟩;rw [show smallF p=scaleF (trimF p) (1 / absQ (topF (trimF p))) from if_neg HNE.out];exact H7.out
theorem sturm_c (vp vq:Value) (hp:isSl vp) (hq:isSl vq) (w:World):Calls Tryz.prog 81 #[vp,vq] w fun e w'=>e=.returned (.func (.func 118) #[] #[.pointer (some ⟨w.heap.size+1+1,0,none⟩),.pointer (some ⟨w.heap.size,0,none⟩),.pointer (some ⟨w.heap.size+1,0,none⟩)])∧w'=((w.alloc (.cells #[vp] 25)).alloc (.cells #[vq] 25)).alloc (.cells #[.func (.func 117) #[] #[]] 29):=by
 obtain⟨A,n,c,rfl⟩:=hp;obtain⟨A',n',c',rfl⟩:=hq
 go_enter Tryz.func81,Tryz.ntmps81
 go_wp2_with fail;go_ret
 exact⟨rfl,rfl⟩
def chainU:Nat→List Rat→List Rat→List (List Rat)
 | 0,_,_=>[]
 | n+1,p,q=>if p=[] then [] else if q=[] then [p] else p :: chainU n q (smallF (scaleF (divF p q).2 (-1)))
def chainF (p q:List Rat):List (List Rat):=chainU (p.length+q.length+2) (smallF p) (smallF q)
def chB (M:Nat):Nat→List Rat→List Rat→Bool
 | 0,p,_=>p.isEmpty
 | n+1,p,q=>p.isEmpty || q.isEmpty || (divOk M p q && smB M (divF p q).2 && chB M n q (smallF (scaleF (divF p q).2 (-1))))
def chainOk (M:Nat) (p q:List Rat):Bool:=smB M p && smB M q && chB M (p.length+q.length+2) (smallF p) (smallF q)
theorem div_rest_lt {M:Nat} (n:Nat) (quo rest q:List Rat) (h:divB M n rest q=true):(divU n quo rest q).2.length<q.length:=by
 induction n generalizing quo rest with
 | zero=>exact of_decide_eq_true h
 | succ n ih=>
  unfold divB at h;unfold divU
  by_cases hl:rest.length<q.length
  ·rw [if_pos hl];exact hl
  ·rw [if_neg hl,Bool.and_eq_true] at h
   rw [if_neg hl];exact ih _ _ h.2
theorem divOk_lt {M:Nat} {p q:List Rat} (h:divOk M p q=true):(divF p q).2.length<q.length:=by
 unfold divOk at h;rw [Bool.and_eq_true] at h;exact Nat.lt_of_lt_of_le (div_rest_lt _ _ _ _ h.2) (trim_le q)
def lenOf:Value→Nat | .slice _ n _=>n|_=>0
def ZS (_:Nat) (o:Obj):Prop:=∃cs T f,o=.cells cs T f∧∃c ∈ cs.toList,¬ isSl c
theorem keep_cell {A B:World} (k:KeepZ ZS A B) {b j:Nat} {c:Value} (h:A.cell? ⟨b,j,none⟩=some c) (hc:¬ isSl c):B.heap[b]?=A.heap[b]?:=by
 obtain⟨o,ho,hoc⟩:=cell_block h;refine(k.2 _ o ho hoc ?_).trans ho.symm
 cases o with
 | cells cs T f=>
  refine⟨cs,T,f,rfl,c,?_,hc⟩;unfold World.cell? at h;rw [show A.heap[b]?=some (.cells cs T f) from ho] at h;have h':cs[j]?=some c:=by simpa using h
  rw [Array.mem_toList_iff];exact Array.mem_of_getElem? h'
 | _=>cases hoc
theorem Nm.keepS {A B:World} {v:Value} {q:Rat} (h:Nm A v q) (k:KeepZ ZS A B):Nm B v q:=by
 have key:∀ {vv:Value} {m:Nat},Wd A vv m→Wd B vv m:=by
  intro vv m hw;obtain⟨X,cc,e,hc,hcl⟩:=hw;refine⟨X,cc,e,hc,?_⟩
  rcases Nat.eq_zero_or_pos (dg m).length with h0|h0
  ·left;rw [List.length_eq_zero_iff.1 h0];rfl
  ·obtain⟨bl,o,hA,hce⟩:=hcl.at_ (by simpa using h0)
   right
   refine⟨bl,o,hA,fun j hj=>?_⟩;have hj':j<(dg m).length:=by simpa using hj
   have h1:=hce j hj;rw [getD_map_u64 _ _ hj'] at h1;have hk:=keep_cell k h1 (by rintro⟨_,_,_,e⟩;cases e);exact(World.cell?_of_block (a:=⟨bl,o+j,none⟩) hk).trans (hce j hj)
 obtain⟨vn,vd,e,h1,h2⟩:=h;exact⟨vn,vd,e,key h1,key h2⟩
theorem Pl.keepS {A B:World} {v:Value} {l:List Rat} (h:Pl A v l) (k:KeepZ ZS A B):Pl B v l:=by
 obtain⟨X,cap,e,hc,hA⟩:=h;refine⟨X,cap,e,hc,?_⟩
 rcases hA with h|⟨b,o,e1,ht⟩
 ·exact .inl h
 ·refine .inr ⟨b,o,e1,fun i q hq=>?_⟩
  obtain⟨s,A1,m,ca,B1,n1,cb,h1,h2,h3,h4⟩:=ht i q hq;have hb:=keep_cell k h1 (by rintro⟨_,_,_,e⟩;cases e);exact⟨s,A1,m,ca,B1,n1,cb,(World.cell?_of_block (a:=⟨b,_,none⟩) hb).trans h1,(World.cell?_of_block (a:=⟨b,_,none⟩) hb).trans h2,(World.cell?_of_block (a:=⟨b,_,none⟩) hb).trans h3,h4.keepS k⟩
theorem Pl.cb {A B:World} {v:Value} {l:List Rat} (h:Pl A v l) (k:Cb A B):Pl B v l:=by
 obtain⟨X,cap,e,hc,hA⟩:=h;refine⟨X,cap,e,hc,?_⟩
 rcases hA with h|⟨b,o,e1,ht⟩
 ·exact .inl h
 ·exact .inr ⟨b,o,e1,fun i q hq=>(ht i q hq).cb k⟩
def encC (x:Value × List Rat):Array Value:=#[x.1]
theorem sturm_in (M:Nat) (hM0:0<M) (hM:M≤4294967296) (n₁:Nat) (hn:1≤n₁) (l Bf Bp Bz:Nat) (vp vq:Value) (p q:List Rat) (hlp:p.length≤100000) (hlq:q.length≤100000) (hok:chainOk M p q=true) (J:List (Value × List Rat)→World→Prop) (hJE:∀pre A B,J pre A→Ext A B→J pre B) (hY:∀pre x W1,J pre W1→Pl W1 x.1 x.2→pre.length<(chainF p q).length→YieldAt Fence.wide (n₁ - 1) Tryz.prog l (encC x) W1 fun e W'=>e=.returned (.bool true)∧J (pre ++ [x]) W'∧KeepZ ZS W1 W') (W:World) (hp:Pl W vp p) (hq:Pl W vq q) (cf:W.cell? ⟨Bf,0,none⟩=some (.func (.func 117) #[] #[])) (cp:W.cell? ⟨Bp,0,none⟩=some vp) (cz:W.cell? ⟨Bz,0,none⟩=some vq) (h0:J [] W):CallsIn Fence.wide n₁ Tryz.prog 118 #[.func (.yield l) #[] #[],.pointer (some ⟨Bf,0,none⟩),.pointer (some ⟨Bp,0,none⟩),.pointer (some ⟨Bz,0,none⟩)] W fun e W'=>(∃v,e=.returned v)∧∃xs:List (Value × List Rat),(xs.map (fun x=>x.2)=chainF p q∧∀x ∈ xs,Pl W' x.1 x.2)∧J xs W':=by
 obtain⟨A,n,c,rfl,-⟩:=hp.form;obtain⟨A',n',c',rfl,-⟩:=hq.form;unfold chainOk at hok;rw [Bool.and_eq_true,Bool.and_eq_true] at hok;obtain⟨⟨hsp,hsq⟩,hcb⟩:=hok;obtain⟨D,hD⟩:∃D,chainF p q=D:=⟨_,rfl⟩;rw [hD] at hY ⊢;have HD:=ZZ (show chainU (p.length+q.length+2) (smallF p) (smallF q)=D from hD);have HSP:=ZZ (sm_of hsp);have HSQ:=ZZ (sm_of hsq);have HCB:=ZZ hcb;have HLP:=ZZ hlp;have HLQ:=ZZ hlq;have HM0:=ZZ hM0;have HM:=ZZ hM;have HY:=ZZ hY;have HJE:=ZZ hJE;have HJ0:=ZZ h0;have HP:=ZZ hp;have HQ:=ZZ hq;have BN:=ZZ (show Bq 64 (-1:Rat) from bq_int (-1) (by decide) (by decide));have HC:=ZZ (show ∀W',Ext W W'→W'.cell? ⟨Bf,0,none⟩=some (.func (.func 117) #[] #[])∧W'.cell? ⟨Bp,0,none⟩=some (.slice A n c)∧W'.cell? ⟨Bz,0,none⟩=some (.slice A' n' c') from fun W' k=>⟨ao k cf,ao k cp,ao k cz⟩);clear hsp hsq hcb hlp hlq hM0 hM hY hJE h0 hp hq hD cf cp cz;refine callsIn_of_wp Tryz.func118 rfl trivial ?_ rfl
 simp only [Tryz.ntmps118,List.size_toArray,List.length_cons,List.length_nil,Nat.reduceAdd,Nat.reduceSub,Array.replicate_succ,Array.replicate_zero,List.push_toArray,List.append_toArray,List.nil_append,List.cons_append]
 gi_wp2
 refine wpIn_wide.2 ?_;have hun:undef=.tuple #[]:=rfl;refine wp_region_noPanic ?_;refine wp_region_held_drew (S:=fun W=>W.cell? ⟨Bf,0,none⟩=some (.func (.func 117) #[] #[])∧W.cell? ⟨Bp,0,none⟩=some (.slice A n c)∧W.cell? ⟨Bz,0,none⟩=some (.slice A' n' c')) (by kernel_rfl) (HC.out _ (ae _)) (fun hHeld=>?_);refine take_a 0 9 ?_;refine take_a 1 10 ?_;refine take_a 3 12 ?_;refine take_a 4 13 ?_;refine call_p (i:=2) (some 11) rfl rfl (by kernel_rfl) (fun K hK=>?_)
 go_simp
 go_at_call 117
 refine(small_p M (by have:=HM.out;omega) _ p (by have:=HLP.out;omega) _ (HP.out.mono (ae _)) HSP.out).mono ?_;rintro e w4 ⟨v4,rfl,h4,kk4⟩;have H4:=ZZ h4;have hx1:=ZZ (show Ext W w4 from al (ae _) kk4);clear h4 kk4
 try go_wp2_with fail
 refine hK.out _ _ (HC.out _ hx1.out) (fun hHeld=>?_);clear hK K
 try simp only [Act.put,lyA,lyB,lyC]
 refine call_p (i:=5) (some 14) rfl rfl (by kernel_rfl) (fun K hK=>?_)
 go_simp
 go_at_call 117
 refine(small_p M (by have:=HM.out;omega) _ q (by have:=HLQ.out;omega) _ (HQ.out.mono hx1.out) HSQ.out).mono ?_;rintro e w5 ⟨v5,rfl,h5,kk5⟩;have H5:=ZZ h5;have H4b:=ZZ (H4.out.mono kk5);have hx2:=ZZ (al hx1.out kk5);clear h5 kk5
 try go_wp2_with fail
 refine hK.out _ _ (HC.out _ hx2.out) (fun hHeld=>?_);clear hK K
 try simp only [Act.put,lyA,lyB,lyC]
 refine take_a 6 5 ?_;refine take_a 7 6 ?_;refine wpAnyH_done (by kernel_rfl) ?_ _;refine NoPanic.normal ?_;have KW:=ZZ hx2.out;have cf5:=(HC.out w5 hx2.out).1
 gi_wp2
 gi_loopw [5,6] (fun vP vQ wr=>∃(k:Nat) (P Q:List Rat) (pre:List (Value × List Rat)),Hid (P.length≤100000)∧Hid (Q.length≤100000)∧Hid (trimF Q=Q)∧Hid (chB M k P Q=true)∧Hid (pre.map (fun x=>x.2) ++ chainU k P Q=D)∧Hid (∀x ∈ pre,Pl wr x.1 x.2)∧Hid (Pl wr vP P)∧Hid (Pl wr vQ Q)∧Hid (J pre wr)∧wr.cell? ⟨Bf,0,none⟩=some (.func (.func 117) #[] #[])) (fun _ vQ _=>lenOf vQ)
 case atStart=>exact⟨_,smallF p,smallF q,[],ZZ (Nat.le_trans (small_len p) HLP.out),ZZ (Nat.le_trans (small_len q) HLQ.out),ZZ (trim_small q),HCB,HD,ZZ (fun x hx=>by cases hx),H4b,H5,ZZ (HJE.out _ _ _ HJ0.out KW.out),cf5⟩
 case round=>
  obtain⟨k,P,Q,pre,HLP1,HLQ1,HTQ,HB,HU,HPRE,HPP,HPQ,HJ,cf6⟩:=hrel;rename World=>WR;clear cf5 KW H4b H5 hx2 hx1 H4 HJ0 HC HP HQ HD HSP HSQ HCB HLP HLQ;obtain⟨AP,nP,cP,eP,hnP⟩:=HPP.out.form;obtain⟨AQ,nQ,cQ,eQ,hnQ⟩:=HPQ.out.form;subst eP eQ;have HNP:=ZZ hnP;have HNQ:=ZZ hnQ;clear hnP hnQ
  rcases Nat.eq_zero_or_pos nP with hz|hz
  ·subst hz
   have HE:=ZZ (show pre.map (fun x=>x.2)=D from by
    rw [←HU.out,List.length_eq_zero_iff.1 HNP.out]
    cases k <;> exact(List.append_nil _).symm)
   gi_wp2
   go_end0
   exact⟨⟨_,rfl⟩,pre,⟨HE.out,HPRE.out⟩,HJ.out⟩
  ·have hPne:P≠[]:=fun e=>by have:=HNP.out;rw [e] at this;simp at this;omega
   have hPe:P.isEmpty=false:=by cases P with|nil=>exact absurd rfl hPne|cons a l=>rfl
   obtain⟨ko,rfl⟩:∃j,k=j+1:=⟨k - 1,by
    rcases Nat.eq_zero_or_pos k with h|h
    ·subst h
     have h1:P.isEmpty=true:=HB.out;rw [hPe] at h1;cases h1
    ·omega⟩
   have hb2:(P.isEmpty || Q.isEmpty || (divOk M P Q && smB M (divF P Q).2 && chB M ko Q (smallF (scaleF (divF P Q).2 (-1)))))=true:=HB.out;rw [hPe,Bool.false_or] at hb2;have hu2:pre.map (fun x=>x.2) ++ (if P=[] then [] else if Q=[] then [P] else P :: chainU ko Q (smallF (scaleF (divF P Q).2 (-1))))=D:=HU.out;rw [if_neg hPne] at hu2
   have hlen:pre.length<D.length:=by
    rw [←hu2,List.length_append,List.length_map]
    split
    ·rw [List.length_singleton];omega
    ·rw [List.length_cons];omega
   obtain⟨fn,tmps,assign,body,hy,hR⟩:=HY.out pre (.slice AP nP cP,P) _ HJ.out HPP.out hlen;have HB2:=ZZ hb2;have HU2:=ZZ hu2;have HZ:=ZZ hz;have z1:decide ((0:Int)<(nP:Int))=true:=decide_eq_true (by omega);have z1':decide (0<nP)=true:=decide_eq_true hz;clear hPne hPe hb2 hu2 hlen hz
   dsimp only [encC] at hy
   gi_wp2
   refine hR.mono ?_;rintro e W3 ⟨rfl,hJ3,hk3⟩;have HJ3:=ZZ hJ3;have HPP3:=ZZ (HPP.out.keepS hk3);have HPQ3:=ZZ (HPQ.out.keepS hk3)
   have HPRE3:=ZZ (show ∀x ∈ pre ++ [(Value.slice AP nP cP,P)],Pl W3 x.1 x.2 from fun x hx=>by
    rcases List.mem_append.1 hx with hx|hx
    ·exact(HPRE.out x hx).keepS hk3
    ·rw [List.mem_singleton.1 hx];exact HPP3.out)
   have cf5:W3.cell? ⟨Bf,0,none⟩=some (.func (.func 117) #[] #[]):=(World.cell?_of_block (a:=⟨Bf,0,none⟩) (keep_cell hk3 cf6 (by rintro⟨_,_,_,e⟩;cases e))).trans cf6;clear hk3 hJ3 hy hR cf6 HPP HPQ HPRE HJ
   rcases Nat.eq_zero_or_pos nQ with hz|hz
   ·subst hz
    have HE:=ZZ (show (pre ++ [(Value.slice AP nP cP,P)]).map (fun x=>x.2)=D from by
     rw [←HU2.out,if_pos (List.length_eq_zero_iff.1 HNQ.out),List.map_append];rfl)
    gi_wp2
    refine bodyPost_ret (results_none rfl _ _ _) rfl ?_;exact⟨⟨_,rfl⟩,_,⟨HE.out,HPRE3.out⟩,HJ3.out⟩
   ·have hQne:Q≠[]:=fun e=>by have:=HNQ.out;rw [e] at this;simp at this;omega
    have hQe:Q.isEmpty=false:=by cases Q with|nil=>exact absurd rfl hQne|cons a l=>rfl
    have hb3:=HB2.out;rw [hQe,Bool.false_or,Bool.and_eq_true,Bool.and_eq_true] at hb3;have hu3:=HU2.out;rw [if_neg hQne] at hu3;have HB3:=ZZ hb3;have HU3:=ZZ hu3;have HQN:=ZZ (show trimF Q≠[] from by rw [HTQ.out];exact hQne);have HBR:=ZZ (sm_of hb3.1.2)
    have HLT:=ZZ (show (smallF (scaleF (divF P Q).2 (-1))).length<nQ from by
     have h1:=divOk_lt hb3.1.1;have h2:=scale_len (divF P Q).2 (-1);have h3:=small_len (scaleF (divF P Q).2 (-1));have h4:=HNQ.out
     omega)
    have z2:((nQ:Int) == 0)=false:=by rw [beq_eq_false_iff_ne];omega
    have z2':(nQ == 0)=false:=by rw [beq_eq_false_iff_ne];omega
    have z3:nQ≠0:=by omega
    have hdv:=ZZ (divided_p M HM0.out (by have:=HM.out;omega) _ _ P Q HLP1.out HLQ1.out _ HPP3.out HPQ3.out HQN.out hb3.1.1);clear hQne hQe hb3 hu3 hz
    gi_wp2_with (refine⟨trivial,?_⟩;gi_at_call 80;refine(callsIn_wide.2 hdv.out).mono ?_;rintro e w5 ⟨v5,v6,rfl,h5,h6,k5⟩;have HRest:=ZZ h6.pl;have K5:=ZZ k5;clear h5 h6 k5)
    have cf7:=cf5;clear cf5 hdv;have cf5:=ao K5.out cf7;clear cf7;refine wpIn_wide.2 ?_;refine wp_region_noPanic ?_;refine wp_region_held_drew (S:=fun W=>W.cell? ⟨Bf,0,none⟩=some (.func (.func 117) #[] #[])) (by kernel_rfl) (ao (ae _) cf5) (fun hHeld=>?_);refine take_a 0 31 ?_;refine take_a 1 32 ?_;refine take_a 2 33 ?_;refine call_p (i:=3) (some 34) rfl rfl (by kernel_rfl) (fun K hK=>?_)
    go_simp
    go_at_call 25
    refine(int_q (-1) (by decide) (by decide) _).mono ?_;rintro e w6 ⟨v6,rfl,h6,kk6⟩;have H6:=ZZ (show Nm w6 v6 (-1) from h6);have hy1:=ZZ (show Ext w5 w6 from al (ae _) kk6);clear h6 kk6
    try go_wp2_with fail
    refine hK.out _ _ (ao hy1.out cf5) (fun hHeld=>?_);clear hK K
    try simp only [Act.put,lyA,lyB,lyC]
    refine call_p (i:=4) (some 35) rfl rfl (by kernel_rfl) (fun K hK=>?_)
    go_simp
    go_at_call 116
    refine(scale_q (M+64) (by have:=HM.out;omega) _ _ (divF P Q).2 (-1) (by have h1:=(div_len P Q).2;have h2:=HLP1.out;omega) _ (HRest.out.mono hy1.out) H6.out (fun x hx=>(HBR.out x hx).mono (by omega)) (BN.out.mono (by omega))).mono ?_;rintro e w7 ⟨v7,rfl,h7,kk7⟩;have H7:=ZZ h7.pl;have hy2:=ZZ (al hy1.out kk7);clear h7 kk7
    try go_wp2_with fail
    refine hK.out _ _ (ao hy2.out cf5) (fun hHeld=>?_);clear hK K
    try simp only [Act.put,lyA,lyB,lyC]
    refine call_p (i:=5) (some 36) rfl rfl (by kernel_rfl) (fun K hK=>?_)
    go_simp
    go_at_call 117
    refine(small_p (M+64) (by have:=HM.out;omega) _ (scaleF (divF P Q).2 (-1)) (by have h0:=scale_len (divF P Q).2 (-1);have h1:=(div_len P Q).2;have h2:=HLP1.out;omega) _ H7.out (bq_scale HBR.out BN.out)).mono ?_;rintro e w8 ⟨v8,rfl,h8,kk8⟩;have H8:=ZZ h8;have hy3:=ZZ (al hy2.out kk8);clear h8 kk8
    try go_wp2_with fail
    refine hK.out _ _ (ao hy3.out cf5) (fun hHeld=>?_);clear hK K
    try simp only [Act.put,lyA,lyB,lyC]
    refine take_a 6 5 ?_;refine take_a 7 6 ?_;refine wpAnyH_done (by kernel_rfl) ?_ _;refine NoPanic.normal ?_;have E8:=ZZ (al K5.out hy3.out);have cf9:=ao hy3.out cf5;clear cf5
    gi_wp2
    go_roundw
    case rel=>exact⟨ko,Q,smallF (scaleF (divF P Q).2 (-1)),_,HLQ1,ZZ (by have h1:=HLT.out;have h2:=HLQ1.out;have h3:=HNQ.out;omega),ZZ (trim_small _),ZZ HB3.out.2,ZZ (by rw [List.map_append,List.append_assoc];exact HU3.out),ZZ (fun x hx=>(HPRE3.out x hx).mono E8.out),ZZ (HPQ3.out.mono E8.out),H8,ZZ (HJE.out _ _ _ HJ3.out E8.out),cf9⟩
    case measure=>
     obtain⟨A8,n8,c8,e8,hn8⟩:=H8.out.form;rw [e8]
     show n8<nQ
     rw [←hn8];exact HLT.out
end Go.Proofs.YtaaoleakkaloeaaGreatDoor
set_option linter.unusedVariables false
set_option maxRecDepth 100000
set_option maxHeartbeats 64000000
namespace Go.Proofs.YtaaoleakkaloeaaGreatDoor
end Go.Proofs.YtaaoleakkaloeaaGreatDoor
set_option linter.unusedVariables false
set_option maxRecDepth 100000
set_option maxHeartbeats 64000000
namespace Go.Proofs.YtaaoleakkaloeaaGreatDoor
open Go.RowKit
theorem Sp.put6 {W:World} {v:Value} {lo hi:Rat} {g:Nat} {b1 b2:Bool} {A B C D:Option Addr} {k ca l cb m cc n cd:Nat} {T:TypeId} (h:Sp W v lo hi) (hg:W.heap[g]?=some (.cells #[.bool b1,.slice A k ca,.slice B l cb,.bool b2,.slice C m cc,.slice D n cd] T (0,0))) (a b c d e f:Value):Sp (put6 W g a b c d e f) v lo hi:=by
 obtain⟨x0,x1,x2,y0,y1,y2,e',h1,h2⟩:=h;exact⟨x0,x1,x2,y0,y1,y2,e',h1.put6 hg ..,h2.put6 hg ..⟩
end Go.Proofs.YtaaoleakkaloeaaGreatDoor
namespace Go.Proofs.YtaaoleakkaloeaaGreatDoor
open Go.RowKit
end Go.Proofs.YtaaoleakkaloeaaGreatDoor
set_option linter.unusedVariables false
set_option maxRecDepth 100000
set_option maxHeartbeats 64000000
namespace Go.Proofs.YtaaoleakkaloeaaGreatDoor
open Go.RowKit
end Go.Proofs.YtaaoleakkaloeaaGreatDoor
set_option linter.unusedVariables false
set_option maxRecDepth 100000
set_option maxHeartbeats 64000000
namespace Go.Proofs.YtaaoleakkaloeaaGreatDoor
open Go.RowKit
end Go.Proofs.YtaaoleakkaloeaaGreatDoor
set_option linter.unusedVariables false
set_option maxRecDepth 100000
set_option maxHeartbeats 64000000
namespace Go.Proofs.YtaaoleakkaloeaaGreatDoor
open Go Go.RowKit Go.Shelf
set_option linter.unusedSimpArgs false
attribute [local go_sem] Oper.semAt_some
theorem put6_oth {W:World} {g k:Nat} (a b c d e f:Value) (h:k≠g):(put6 W g a b c d e f).heap[k]?=W.heap[k]?:=by
 unfold put6;rw [Below.heap_setCell _ _ _ _ h,Below.heap_setCell _ _ _ _ h,Below.heap_setCell _ _ _ _ h,Below.heap_setCell _ _ _ _ h,Below.heap_setCell _ _ _ _ h,Below.heap_setCell _ _ _ _ h]
theorem Sp.cb {W W':World} {v:Value} {lo hi:Rat} (h:Sp W v lo hi) (k:Cb W W'):Sp W' v lo hi:=by
 obtain⟨x0,x1,x2,y0,y1,y2,e,h1,h2⟩:=h;exact⟨x0,x1,x2,y0,y1,y2,e,h1.cb k,h2.cb k⟩
end Go.Proofs.YtaaoleakkaloeaaGreatDoor
set_option linter.unusedVariables false
set_option maxRecDepth 100000
set_option maxHeartbeats 64000000
namespace Go.Proofs.YtaaoleakkaloeaaGreatDoor
open Go.RowKit
theorem BlC.imp {C D:Nat→Prop} {v:Value} (h:BlC C v) (k:∀b,C b→D b):BlC D v:=fun a n c e h0=>k _ (h a n c e h0)
theorem BlN.imp {C D:Nat→Prop} {v:Value} (h:BlN C v) (k:∀b,C b→D b):BlN D v:=fun s A n c A' l d e=>⟨(h s A n c A' l d e).1.imp k,(h s A n c A' l d e).2.imp k⟩
theorem BlN.both {C D:Nat→Prop} {v:Value} (h:BlN C v) (h':BlN D v):BlN (fun b=>C b∧D b) v:=fun s A n c A' l d e=>
 ⟨fun a m c0 e0 h0=>⟨(h s A n c A' l d e).1 a m c0 e0 h0,(h' s A n c A' l d e).1 a m c0 e0 h0⟩,fun a m c0 e0 h0=>⟨(h s A n c A' l d e).2 a m c0 e0 h0,(h' s A n c A' l d e).2 a m c0 e0 h0⟩⟩
theorem Wr.keepB {W W':World} {v:Value} {n:Nat} {C:Nat→Prop} (h:Wr W v n) (hb:BlC C v) (hk:∀b,C b→W'.heap[b]?=W.heap[b]?):Wr W' v n:=by
 obtain⟨A,cc,e,hc,hcl⟩:=h;refine⟨A,cc,e,hc,?_⟩
 rcases hcl with h0|⟨b,o,hA,hce⟩
 ·exact .inl h0
 ·refine .inr ⟨b,o,hA,fun j hj=>?_⟩
  rw [←hce j hj];exact World.cell?_of_block (hk b (hb ⟨b,o,none⟩ _ cc (by rw [e,hA]) (by simp at hj;omega)))
theorem Wr.old {w:World} {v:Value} {n:Nat} (h:Wr w v n):BlC (·<w.heap.size) v:=by
 rintro a k c e h0;obtain⟨A,cc,e1,hc,hcl⟩:=h;rw [e1] at e
 injection e with ea ek ec
 rcases hcl with h1|⟨b,o,hA,hce⟩
 ·rw [←ek] at h0
  simp at h1
  rw [h1] at h0
  cases h0
 ·rw [hA] at ea
  injection ea with ea
  rw [←ea];have h2:=hce 0 (by simp;omega);exact World.block_lt_of_cell? w _ h2
theorem Nr.keepB {W W':World} {v:Value} {q:Rat} {C:Nat→Prop} (h:Nr W v q) (hb:BlN C v) (hk:∀b,C b→W'.heap[b]?=W.heap[b]?):Nr W' v q:=by
 obtain⟨s,vt,vb,e,hs,h1,h2⟩:=h;obtain⟨A,c,e1,-,-⟩:=id h1;obtain⟨A',c',e2,-,-⟩:=id h2;obtain⟨f1,f2⟩:=hb s A _ c A' _ c' (by rw [e,e1,e2]);exact⟨s,vt,vb,e,hs,h1.keepB (by rw [e1];exact f1) hk,h2.keepB (by rw [e2];exact f2) hk⟩
theorem Nr.old {w:World} {v:Value} {q:Rat} (h:Nr w v q):BlN (·<w.heap.size) v:=by
 obtain⟨s,vt,vb,e,hs,h1,h2⟩:=h;intro s1 A1 k1 c1 A2 l2 d2 e';rw [e] at e'
 simp only [Value.agg.injEq,Array.mk.injEq,List.cons.injEq] at e'
 obtain⟨-,rfl,rfl,-⟩:=e';exact⟨h1.old,h2.old⟩
def TriR (w:World) (b j:Nat) (q:Rat):Prop:=∃s A k ca B m cb,w.cell? ⟨b,j,none⟩=some (.int .i64 s)∧w.cell? ⟨b,j+1,none⟩=some (.slice A k ca)∧w.cell? ⟨b,j+2,none⟩=some (.slice B m cb)∧Nr w (.agg #[.int .i64 s,.slice A k ca,.slice B m cb]) q
theorem TriR.mono {w w':World} {b j:Nat} {q:Rat} (h:TriR w b j q) (k:Ext w w'):TriR w' b j q:=by
 obtain⟨s,A,m,ca,B,n,cb,h1,h2,h3,h4⟩:=h;exact⟨s,A,m,ca,B,n,cb,ao k h1,ao k h2,ao k h3,h4.mono k⟩
def PlR (w:World) (v:Value) (l:List Rat):Prop:=∃A cap,v=.slice A l.length cap∧l.length≤cap∧((A=none∧l=[])∨∃b o,A=some ⟨b,o,none⟩∧∀i q,l[i]?=some q→TriR w b (o+i*3) q)
theorem PlR.mono {w w':World} {v:Value} {l:List Rat} (h:PlR w v l) (k:Ext w w'):PlR w' v l:=by
 obtain⟨A,cap,h1,h2,h3⟩:=h;refine⟨A,cap,h1,h2,?_⟩
 rcases h3 with h3|⟨b,o,h4,h5⟩
 ·exact .inl h3
 ·exact .inr ⟨b,o,h4,fun i q hq=>(h5 i q hq).mono k⟩
theorem PlR.nil (w:World):PlR w (.slice none 0 0) []:=⟨none,0,rfl,Nat.le_refl _,.inl ⟨rfl,rfl⟩⟩
theorem PlR.form {w:World} {v:Value} {l:List Rat} (h:PlR w v l):∃A c,v=.slice A l.length c:=by
 obtain⟨A,c,e,-⟩:=h;exact⟨A,c,e⟩
theorem PlR.take {w:World} {A:Option Addr} {n cap:Nat} {l:List Rat} (h:PlR w (.slice A n cap) l) {k:Nat} (hk:k≤l.length):PlR w (.slice A k cap) (l.take k):=by
 obtain⟨A',cap',e,h2,h3⟩:=h
 injection e with e1 e2 e3
 subst e1 e2 e3;have hl:(l.take k).length=k:=by simp [hk]
 refine⟨A,cap,by rw [hl],by rw [hl];omega,?_⟩
 rcases h3 with ⟨h4,h5⟩|⟨b,o,h4,h5⟩
 ·exact .inl ⟨h4,by rw [h5];simp⟩
 ·refine .inr ⟨b,o,h4,fun i q hq=>h5 i q ?_⟩
  rw [List.getElem?_take] at hq
  split at hq
  ·exact hq
  ·cases hq
theorem plr_of_own {w:World} {B:Nat} {v:Value} {l:List Rat} {xs:List Value} {C:Value→Prop} (h:OwnG w B 69 3 C v l.length xs) (hx:∀i q,l[i]?=some q→∃s A k ca C m cb,xs[i*3]?=some (.int .i64 s)∧xs[i*3+1]?=some (.slice A k ca)∧xs[i*3+2]?=some (.slice C m cb)∧Nr w (.agg #[.int .i64 s,.slice A k ca,.slice C m cb]) q):PlR w v l:=by
 obtain⟨hlen,h2⟩:=h
 rcases h2 with ⟨rfl,h0⟩|⟨g,cap,cur,rfl,-,hg,hc,-,-,ht,-⟩
 ·rw [List.length_eq_zero_iff.1 h0];exact PlR.nil w
 ·refine⟨_,cap,rfl,hc,.inr ⟨g,0,rfl,fun i q hq=>?_⟩⟩
  obtain⟨s,A,k,ca,C,m,cb,x0,x1,x2,hn⟩:=hx i q hq
  have key:∀(j:Nat) (u:Value),xs[j]?=some u→w.cell? ⟨g,j,none⟩=some u:=fun j u hu=>by
   rw [cell_of_row w g j _ _ _ hg];rw [←ht,List.getElem?_take] at hu
   split at hu
   ·simpa using hu
   ·cases hu
  rw [Nat.zero_add];exact⟨s,A,k,ca,C,m,cb,key _ _ x0,key _ _ x1,key _ _ x2,hn⟩
end Go.Proofs.YtaaoleakkaloeaaGreatDoor
