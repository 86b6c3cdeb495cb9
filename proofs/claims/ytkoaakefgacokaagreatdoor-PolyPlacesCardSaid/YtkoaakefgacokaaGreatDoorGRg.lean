/- The reference's natural numbers: quotient and rest. -/
import Derived.Test.YtkoaakefgacokaaGreatDoorGYd
set_option linter.unusedVariables false
set_option maxRecDepth 100000
set_option maxHeartbeats 64000000
namespace Go.Proofs.YtkoaakefgacokaaGreatDoor
open Go.RowKit
theorem Wr.set_ {w:World} {v:Value} {n g i:Nat} {x:Value} (h:Wr w v n) (hne:v.ownBlock≠some g):Wr (w.setCell ⟨g,i,none⟩ x) v n:=by
 obtain⟨A,c,rfl,hc,hcl⟩:=h;refine⟨A,c,rfl,hc,?_⟩
 rcases hcl with h|⟨b,o,rfl,h2⟩
 ·exact .inl h
 ·refine .inr ⟨b,o,rfl,fun j hj=>?_⟩
  rw [←h2 j hj]
  apply World.cell?_of_block
  exact Below.heap_setCell _ _ _ _ (by rintro rfl;exact hne rfl)
theorem guess_r {P bt N T R e dd:Nat} (hN:N<(bt+1)*P) (hT:T*P≤R) (hNR:N≤R) (he:e=T / (bt+1)) (hd:dd=max e 1):dd*N≤R∧1≤dd∧dd≤T+1:=by
 have h1:e*N≤R:=by
  have h2:e*N≤e*((bt+1)*P):=Nat.mul_le_mul_left _ (Nat.le_of_lt hN);have h3:e*(bt+1)≤T:=by rw [he];exact Nat.div_mul_le_self _ _
  have h4:e*(bt+1)*P≤T*P:=Nat.mul_le_mul_right _ h3;rw [Nat.mul_assoc] at h4;omega
 have h5:e≤T:=by rw [he];exact Nat.div_le_self _ _
 rcases(show dd=e∧1≤e∨dd=1 by omega) with ⟨h,h'⟩|h
 ·rw [h];exact⟨h1,h',by omega⟩
 ·subst h;rw [Nat.one_mul];exact⟨hNR,Nat.le_refl _,by omega⟩
theorem top_r {R p:Nat} (hl:(dr R).length≤p+2) (h1:p<(dr R).length):((dr R).getD p 0+B30*(dr R).getD (p+1) 0)*B30 ^ p≤R∧((dr R).length≤p+1→(dr R).getD (p+1) 0=0):=by
 have e:=num_dr R;generalize dr R=z at *;have h2:=num_drop B30 z p (by omega);rw [num_drop_cons (B:=B30) h1] at h2
 have h3:num B30 (z.drop (p+1))=z.getD (p+1) 0:=by
  rcases Nat.lt_or_ge (p+1) z.length with h|h
  ·rw [num_drop_cons (B:=B30) h,List.drop_of_length_le (by omega)];simp
  ·rw [List.drop_of_length_le h,List.getD_eq_getElem?_getD,List.getElem?_eq_none h];rfl
 rw [h3] at h2;refine⟨?_,fun h=>by rw [List.getD_eq_getElem?_getD,List.getElem?_eq_none h];rfl⟩;rw [←e,h2,Nat.mul_comm];exact Nat.le_add_left _ _
theorem outer_r {d R N c R' A Q:Nat} (h:A=Q*N+R) (hc:c*N+R'=d+B30*R):d+B30*A=(c+B30*Q)*N+R':=by
 rw [h,Nat.mul_add,Nat.add_mul]
 have:B30*(Q*N)=B30*Q*N:=(Nat.mul_assoc _ _ _).symm
 omega
theorem digit_room {c N R' d R dd:Nat} (hc:c*N+R'=d+B30*R) (hd:d<B30) (hR:R<N) (hdd:dd*N≤R'):c+dd<B30:=by
 rcases Nat.lt_or_ge (c+dd) B30 with h|h
 ·exact h
 ·exfalso
  have h1:B30*N≤(c+dd)*N:=Nat.mul_le_mul_right _ h;rw [Nat.add_mul] at h1;have h2:B30*(R+1)≤B30*N:=Nat.mul_le_mul_left _ hR;rw [Nat.mul_add,Nat.mul_one] at h2;omega
theorem div_final {m n S Q N:Nat} (hS:0<S) (hn:0<n) (h:Q*(n*S)+N=m*S) (hN:N<n*S):Q=m / n∧N / S=m % n:=long_end hS hn h hN
theorem news_cells {w w':World} {A:Addr} {l:List Nat} (h:Cl w (some A) (l.map i64n)) (k:Ext w w'):∀j u,(l.map i64n)[j]?=some u→w'.cell? (A.add j)=some u:=by
 intro j u hu
 rcases h with h|⟨b,o,h1,h2⟩
 ·rw [h] at hu;simp at hu
 ·cases h1
  have hj:j<(l.map i64n).length:=by
   rcases Nat.lt_or_ge j (l.map i64n).length with h|h
   ·exact h
   ·rw [List.getElem?_eq_none h] at hu;cases hu
  have h3:=ao k (h2 j hj);rw [List.getD_eq_getElem?_getD,hu] at h3;rw [show (⟨b,o,none⟩:Addr).add j=⟨b,o+j,none⟩ by unfold Addr.add;split <;> simp_all,h3]
  rfl
theorem own_one (w:World) (d:Int):(w.alloc (.cells #[.int .i64 d] 2)).ownsRow w.heap.size 2 1 (.slice (some ⟨w.heap.size,0,none⟩) 1 1) 1 [.int .i64 d]:=
 ⟨rfl,.inr ⟨_,1,_,rfl,Nat.le_refl _,heap_alloc_new w _,Nat.le_refl _,by decide,rfl,rfl⟩⟩
theorem divided_f (va vb:Value) (m n:Nat) (h0:0<n) (w:World) (ha:Wr w va m) (hb:Wr w vb n) (sa:(dr m).length≤549755813888) (sb:(dr n).length≤549755813888):Calls Tryz.prog 96 #[va,vb] w fun e w'=>∃v u,e=.returned (.tuple #[v,u])∧Wr w' v (m / n)∧Wr w' u (m % n)∧Ext w w'∧Fr w.heap.size v:=by
 have HA:=ZZ ha;have HB:=ZZ hb;have SA:=ZZ (show Sr m by unfold Sr;omega);have SB:=ZZ (show Sr n by unfold Sr;omega);have LA:=ZZ sa;have LB:=ZZ sb;have H0:=ZZ h0;clear ha hb sa sb h0
 go_enter Tryz.func96,Tryz.ntmps96
 go_wp2_with fail;refine(order_r va vb m n w HA.out HB.out SA.out SB.out).mono ?_
 rintro e w1 ⟨rfl,q1,rfl⟩
 by_cases hmn:m<n
 ·rw [ordN_lt hmn]
  have HMN:=ZZ hmn;clear hmn;go_wp2_with fail;refine bodyPost_ret (v:=.tuple #[.slice none 0 0,va]) (by simp [results,Tryz.f96]) rfl ?_;exact⟨_,_,rfl,by rw [Nat.div_eq_of_lt HMN.out];exact Wr.zero _,by rw [Nat.mod_eq_of_lt HMN.out];exact HA.out.mono (av _ _),av _ _,fun b hb=>by cases hb⟩
 ·obtain⟨oc,hoc,hoc'⟩:∃c,ordN m n=c∧decide (c<0)=false:=⟨_,rfl,by
   rcases Nat.lt_or_eq_of_le (Nat.le_of_not_lt hmn) with h|h
   ·rw [ordN_gt h];rfl
   ·rw [ordN_eq h.symm];rfl⟩
  rw [hoc];have HMN:=ZZ hmn;clear hoc hmn;go_wp2_with fail;refine(length_r vb n _ (HB.out.mono (av _ _)) SB.out).mono ?_;rintro e w2 ⟨rfl,rfl⟩;obtain⟨l1,hl1,hl1b⟩:∃l1:Nat,(bl n:Int) % 30=(l1:Int)∧l1<30:=⟨bl n % 30,by omega,by omega⟩;obtain⟨sh,hsh,hshb⟩:∃sh:Nat,(30 - (l1:Int)) % 30=(sh:Int)∧sh<30:=⟨(30 - l1) % 30,by omega,by omega⟩;have hwa:IntKind.i64.wrap (30 - (l1:Int))=30 - (l1:Int):=IntWalk.i64_in _ (by omega);go_wp2_with fail;refine(left_r va m sh (by omega) _ (HA.out.mono (av _ _)) SA.out).mono ?_;rintro e w3 ⟨vM,rfl,hM,k3⟩;have HM:=ZZ hM;have X3:=ZZ (al (av w q1) k3);clear hM k3;go_wp2_with fail;refine(left_r vb n sh (by omega) _ (HB.out.mono X3.out) SB.out).mono ?_;rintro e w4 ⟨vN,rfl,hN,k4⟩;have HN:=ZZ hN;have HM4:=ZZ (HM.out.mono k4);have X4:=ZZ (al X3.out k4);obtain⟨AM,cM,rfl,hcM,hAM⟩:=HM4.out;obtain⟨BN,cN,rfl,hcN,hBN⟩:=hN
  have hS30:2 ^ sh<B30:=by
   have:2 ^ sh≤2 ^ 29:=Nat.pow_le_pow_right (by omega) (by omega)
   rw [B30_eq];omega
  have hlS:(dr (2 ^ sh)).length≤1:=dig_length_le B30_two (by rw [Nat.pow_one];exact hS30);have hLM:(dr (m*2 ^ sh)).length≤549755813889:=Nat.le_trans (dig_length_mul B30_two m (2 ^ sh)) (by have:=LA.out;unfold dr at this hlS;omega);have hLN:(dr (n*2 ^ sh)).length≤549755813889:=Nat.le_trans (dig_length_mul B30_two n (2 ^ sh)) (by have:=LB.out;unfold dr at this hlS;omega);have hSp:0<2 ^ sh:=Nat.pow_pos (by omega);have HSP:=ZZ hSp;have HN0:=ZZ (show 0<n*2 ^ sh from Nat.mul_pos H0.out hSp);have HFIN:=ZZ (fun Q R h hr=>div_final (m:=m) (n:=n) (Q:=Q) (N:=R) hSp H0.out h hr);have HSH:=ZZ (show sh≤35184372088832 by omega);obtain⟨t1,t2,t3,t4,t5⟩:=dr_top HN0.out;obtain⟨b,o,rfl,hcb⟩:=hBN.i t3;have HCB:=ZZ (fun j hj=>hcb j hj);obtain⟨p,hp⟩:∃p,(dr (n*2 ^ sh)).length=p+1:=⟨(dr (n*2 ^ sh)).length - 1,by omega⟩;have hp1:(dr (n*2 ^ sh)).length - 1=p:=by omega
  rw [hp1] at t1 t2 t4 t5;have HBT:=ZZ (hcb p (by omega));have em:=num_dr (m*2 ^ sh);have ml:=dr_lt (m*2 ^ sh);obtain⟨N,hNe⟩:∃N,N=n*2 ^ sh:=⟨_,rfl⟩;rw [←hNe] at t1 t2 t3 t4 t5 hp hcN HN HN0 HFIN HBT hLN ⊢;rw [hp] at hLN hcN HN ⊢;generalize hbt:(dr N).getD p 0=bt at *
  have HNB:=ZZ (show N<(bt+1)*B30 ^ p by
   rw [Nat.add_mul,Nat.one_mul,Nat.mul_comm bt];omega)
  have HP:=ZZ hp;rw [B30_eq] at t1;have SN:=ZZ (show Sr N by unfold Sr;rw [hp];omega);generalize dr (m*2 ^ sh)=ms at *;have EM:=ZZ em;have ML:=ZZ ml;have HAM:=ZZ hAM;have hmk:=mk_digits ms.length (ms.length:Int) rfl (by omega);have hwl:IntKind.i64.wrap ((ms.length:Int) - 1)=(ms.length:Int) - 1:=IntWalk.i64_in _ (by omega);clear t2 t3 t4 t5 hp hp1 em ml hAM hcb hBN hS30 hlS hSp k4 HCB hNe HM HM4 hl1 hsh hwa hbt hoc';go_wp2_with fail;clear hmk hwl;obtain⟨i0,hi,hz0,hz1,hz2⟩:=info_parts info_i64;have XW:=ZZ (show Ext w (w4.alloc (.cells ((zs ms.length).map i64n).toArray 2)) from al X4.out (ab _ _))
  go_loopw [9,10] (fun r i wr=>∃(k R:Nat) (qs:List Nat),k≤ms.length∧i=.int .i64 ((k:Int) - 1)∧qs.length=ms.length∧(∀d ∈ qs,d<B30)∧BkI wr w4.heap.size qs∧Below w4.heap.size w4 wr∧Hid (Wr wr r R)∧Hid (r.ownBlock≠some w4.heap.size)∧R<N∧num B30 (ms.drop k)=num B30 (qs.drop k)*N+R∧∀j,j<k→qs.getD j 0=0) (fun _ i _=>(intOf i+1).toNat)
  case atStart=>exact⟨ms.length,0,zs ms.length,Nat.le_refl _,rfl,zs_length _,zs_lt (by rw [B30_eq];omega) _,BkI.new _ _,ab _ _,ZZ (Wr.zero _),ZZ (by intro h;cases h),HN0.out,by
   rw [List.drop_of_length_le (Nat.le_refl _),List.drop_of_length_le (by rw [zs_length];omega)];simp,fun j _=>by
   simp [zs,List.getD_eq_getElem?_getD,List.getElem?_replicate];split <;> rfl⟩
  case round=>
   obtain⟨k,R,qs,hk,rfl,hq,hql,hbk,hbel,HW,HNE,hR,hnum,hzq⟩:=hrel;have HQ:=ZZ hq;have HQL:=ZZ hql;have HBK:Hid (BkI wr w4.heap.size qs):=hbk;have HBE:=ZZ hbel;have HR:=ZZ hR;have HNUM:=ZZ hnum;have HZQ:=ZZ hzq;clear hq hql hbk hbel hR hnum hzq
   rcases k with _|k
   ·have HCL:=ZZ HBK.out.cl
    have hRl:(dr R).length≤p+1:=by
     have:=dig_length_mono B30_two (Nat.le_of_lt HR.out)
     have h2:=HP.out;unfold dr at h2 ⊢;omega
    have SR:=ZZ (show Sr R by unfold Sr;omega);go_wp2_with fail;refine(rcut_c _ qs _ _ HCL.out ms.length HQ.out (Nat.le_refl _) (by omega)).mono ?_;rintro e w6 ⟨rfl,rfl⟩;have HWQ:=ZZ (rcut_w HQL.out HCL.out (c:=ms.length) (by rw [HQ.out];exact Nat.le_refl _));go_wp2_with fail;refine(right_r _ R sh HSH.out _ HW.out SR.out).mono ?_;rintro e w7 ⟨v7,rfl,h7,k7⟩;have h1:=HNUM.out;rw [List.drop_zero,List.drop_zero,EM.out] at h1;obtain⟨f1,f2⟩:=HFIN.out (num B30 qs) R h1.symm HR.out;have F1:=ZZ f1;rw [f2] at h7;have H7:=ZZ h7;have K7:=ZZ k7;have XF:=ZZ (show Ext w w7 from al X4.out (al HBE.out k7));clear h1 f1 f2 h7 k7;go_wp2_with fail;refine bodyPost_ret (v:=.tuple #[.slice (some ⟨w4.heap.size,0,none⟩) (cut qs).length ms.length,v7]) (by simp [results,Tryz.f96]) rfl ?_
    refine⟨_,_,rfl,?_,H7.out,XF.out,fun b hb=>by
     obtain rfl:w4.heap.size=b:=Option.some.inj hb;exact X4.out.size⟩
    rw [←F1.out];exact HWQ.out.mono K7.out
   ·rw [show (((k+1:Nat):Int) - 1)=(k:Int) by omega]
    have HCA:=ZZ (show ∃b o,AM=some ⟨b,o,none⟩∧∀j,j<ms.length→w4.cell? ⟨b,o+j,none⟩=some (.int .i64 ((ms.getD j 0:Nat):Int)) from HAM.out.i (by omega));obtain⟨bm,om,rfl,hcm⟩:=HCA.out;have ea:=ao HBE.out (hcm k (by omega));have hdb:=getD_lt ML.out (by rw [B30_eq];omega) k;have HDB:=ZZ hdb;rw [B30_eq] at hdb;have HND:=ZZ (num_drop_cons (B:=B30) (l:=ms) (k:=k) (by omega));clear hcm HCA;generalize ms.getD k 0=d at *;obtain⟨AR,cR,rfl,hcR,hclR⟩:=HW.out;have HRC:=ZZ hclR
    have hRl:(dr R).length≤p+1:=by
     have:=dig_length_mono B30_two (Nat.le_of_lt HR.out)
     unfold dr at HP ⊢;have h2:=HP.out;omega
    have H63:=ZZ (show 1+(dr R).length≤maxLen by unfold maxLen;omega);have HBY:=ZZ (show (1+(dr R).length)*8≤140737488355328 by omega);clear hclR;have HLT:=ZZ HBK.out.lt
    have HDR:=ZZ (show ∀z ∈ d :: dr R,z<B30 from fun z hz=>by
     rcases List.mem_cons.1 hz with h|h
     ·rw [h];exact HDB.out
     ·exact dr_lt R z h)
    have HNV:=ZZ (show num B30 (d :: dr R)=d+B30*R by rw [num_cons,num_dr])
    go_upto_region 11 with (fail)
    go_cut [9] (fun r wx=>Hid (Wr wx r (d+B30*R))∧Hid (r.ownBlock≠some w4.heap.size)∧Hid (Ext wr wx))
    case first=>
     rcases AR with _|AR
     ·have hR0:dr R=[]:=by
       rcases HRC.out with h|⟨b',o',h,-⟩
       ·simpa using h
       ·cases h
      have HD1:=ZZ (show [d]=d :: dr R by rw [hR0]);rw [hR0];have HCL:=ZZ (show Cl (wr.alloc (.cells #[.int .i64 (d:Int)] 2)) (some ⟨wr.heap.size,0,none⟩) ([d].map i64n) from cl_new wr [i64n d] 2);go_wp2_with fail;refine(rcut_c _ [d] _ _ HCL.out 1 rfl (Nat.le_refl _) (by omega)).mono ?_;rintro e w6 ⟨rfl,rfl⟩;have HWC:=ZZ (rcut_w (l:=[d]) (by rw [HD1.out];exact HDR.out) HCL.out (c:=1) (Nat.le_refl _));have HNV1:=HNV.out;rw [←HD1.out] at HNV1;rw [HNV1] at HWC
      have HOC:=ZZ (show (Value.slice (some ⟨wr.heap.size,0,none⟩) (cut [d]).length 1).ownBlock≠some w4.heap.size by
       have h1:=HLT.out;intro h2
       have:=Option.some.inj (show some wr.heap.size=some w4.heap.size from h2)
       omega)
      clear hR0 HNV1;go_wp2_with fail;go_meet;exact⟨HWC,HOC,ZZ (ab _ _)⟩
     ·go_wp2_with (at_builtin;refine wpList_append_own_at _ rfl _ _ 57 rfl wr.heap.size 2 i0 (.int .i64 0) 1 8 Tryz.underlying57 hi hz0 hz1 hz2 rfl (by decide) _ _ _ rfl (own_one wr d) AR _ _ ((dr R).map i64n) rfl (by simp) (news_cells HRC.out (ab _ _)) (by intro u hu;simp at hu;obtain⟨_,_,rfl⟩:=hu;rfl) H63.out HBY.out (by simp) ?_;intro v' w5 hown3 hgrow hnil hloc)
      have HE5:=ZZ (show Ext wr w5 from (ab wr _).grown hgrow (by simp) (fun k hk=>(own_lt (own_one wr d) hk).1));have hown4:w5.ownsRow wr.heap.size 2 1 v' (1+(dr R).length) ((d :: dr R).map i64n):=hown3;obtain⟨A5,c5,rfl,hn5,hl5,hcl5⟩:=own_cl hown4;have HCL:=ZZ hcl5;have HL5:=ZZ hl5;have HN5:=ZZ hn5
      have HOB:=ZZ (show (Value.slice A5 (1+(dr R).length) c5).ownBlock≠some w4.heap.size by
       have h1:=HLT.out
       rcases hloc with h|h
       ·rw [h];intro h2;have:=(own_lt (own_one wr d) h2).1;omega
       ·rw [h];intro h2;simp at h2;omega)
      clear hown3 hown4 hgrow hnil hloc hn5 hl5 hcl5;go_wp2_with fail;refine(rcut_c _ (d :: dr R) _ _ HCL.out (1+(dr R).length) HL5.out HN5.out (by omega)).mono ?_;rintro e w6 ⟨rfl,rfl⟩;have HWC:=ZZ (rcut_w HDR.out HCL.out (c:=c5) (by rw [HL5.out];exact HN5.out));rw [HNV.out] at HWC
      have HOC:=ZZ (show (Value.slice A5 (cut (d :: dr R)).length c5).ownBlock≠some w4.heap.size by
       have:=HOB.out
       cases A5 with
       | none=>intro h;cases h
       | some A=>exact this)
      go_wp2_with fail;go_meet
      exact⟨HWC,HOC,HE5⟩
    case rest=>
     obtain⟨HW6,HO6,HE6⟩:=hcut;rename World=>W6;rename Value=>v6;have HQ6:=ZZ (HBK.out.ext HE6.out);have HB6:=ZZ (show Below w4.heap.size w4 W6 from al HBE.out (by have:=HE6.out;exact this));clear HW HNE HRC H63 HBY HLT HDR HNV ea;have hqk:qs.getD k 0=0:=HZQ.out k (by omega);have HQK:=ZZ hqk;have HKL:=ZZ (show k<qs.length by rw [HQ.out];omega);clear hqk;go_wp2_with fail
     go_loopg [9] (d+B30*R) (fun gk r wx=>∃c:Nat,Hid (Wr wx r gk)∧Hid (r.ownBlock≠some w4.heap.size)∧c*N+gk=d+B30*R∧c<B30∧BkI wx w4.heap.size (qs.set k c)∧Below w4.heap.size w4 wx)
     case atStart=>exact⟨0,HW6,HO6,by omega,by rw [B30_eq];omega,by
      have h1:qs.set k 0=qs:=by
       apply List.ext_getElem (by simp)
       intro i h1 h2;rw [List.getElem_set]
       split
       ·rename_i h;subst h
        have:=HQK.out
        simp [List.getD_eq_getElem?_getD,h2] at this
        exact this.symm
       ·rfl
      rw [h1];exact HQ6.out,HB6.out⟩
     case round=>
      obtain⟨c,HWr,HOr,hc,hcb,hbk,hbel⟩:=hrel;have HC:=ZZ hc;have HCB:=ZZ hcb;have HBK7:Hid (BkI wr w4.heap.size (qs.set k c)):=hbk;have HBE7:=ZZ hbel
      have hgkN:gk<B30*N:=by
       have h2:B30*(R+1)≤B30*N:=Nat.mul_le_mul_left _ HR.out;rw [Nat.mul_add,Nat.mul_one] at h2
       have:=HDB.out
       have h3:0≤c*N:=Nat.zero_le _;omega
      have HLG:=ZZ (show (dr gk).length≤p+2 from dig_length_le B30_two (by
       have h1:=lt_dig_length B30_two N;have h2:=HP.out;unfold dr at h2;rw [h2] at h1;have h3:B30*N<B30*B30 ^ (p+1):=Nat.mul_lt_mul_of_pos_left h1 (by rw [B30_eq];omega);rw [show p+2=(p+1)+1 from rfl,Nat.pow_succ,Nat.mul_comm (B30 ^ (p+1))]
       omega))
      have SG:=ZZ (show Sr gk by have:=HLG.out;unfold Sr;omega);clear hc hcb hbk hbel hgkN;go_wp2_with fail;refine(order_r _ _ gk N _ HWr.out (HN.out.mono HBE7.out) SG.out SN.out).mono ?_;rintro e w7 ⟨rfl,q7,rfl⟩
      by_cases hlt:gk<N
      ·rw [ordN_lt hlt]
       have HLT2:=ZZ hlt;clear hlt;have hwi:IntKind.i64.wrap ((k:Int) - 1)=(k:Int) - 1:=IntWalk.i64_in _ (by omega);go_wp2_with fail
       go_roundw
       case rel=>
        refine⟨k,gk,qs.set k c,by omega,by first|rfl|simp,by rw [List.length_set];exact HQ.out,set_lt HQL.out HCB.out k,HBK7.out.drewN q7,al HBE7.out (av _ _),ZZ (HWr.out.mono (av _ _)),HOr,HLT2.out,?_,fun j hj=>by rw [getD_set_ne (by omega)];exact HZQ.out j (by omega)⟩;have h1:=num_drop_cons (B:=B30) (l:=qs.set k c) (k:=k) (by rw [List.length_set];exact HKL.out);rw [show (qs.set k c).getD k 0=c by simp [List.getD_eq_getElem?_getD,HKL.out],show (qs.set k c).drop (k+1)=qs.drop (k+1) from List.drop_set_of_lt (Nat.lt_succ_self k)] at h1;rw [h1,HND.out];exact outer_r HNUM.out HC.out
       case measure=>simp [intOf]
      ·obtain⟨oc,hoc,hoc'⟩:∃c,ordN gk N=c∧decide (0≤c)=true:=⟨_,rfl,by
        rcases Nat.lt_or_eq_of_le (Nat.le_of_not_lt hlt) with h|h
        ·rw [ordN_gt h];rfl
        ·rw [ordN_eq h.symm];rfl⟩
       rw [hoc];have HNG:=ZZ (Nat.le_of_not_lt hlt);clear hoc hlt
       have hlen:p<(dr gk).length:=by
        have h1:=dig_length_mono B30_two HNG.out;have h2:=HP.out;unfold dr at h2 ⊢;omega
       obtain⟨A7,c7,rfl,hc7,hcl7⟩:=HWr.out;obtain⟨b7,o7,rfl,hz7⟩:=hcl7.i (by omega);have ea:=ao (av wr q7) (hz7 p hlen);have HZ7:=ZZ (fun h=>ao (av wr q7) (hz7 (p+1) h));have eb:=ao (al HBE7.out (av wr q7)) HBT.out;obtain⟨hT,hx1z⟩:=top_r HLG.out hlen;have HT:=ZZ hT;have hx0b:=getD_lt (dr_lt gk) (by rw [B30_eq];omega) p;have hx1b:=getD_lt (dr_lt gk) (by rw [B30_eq];omega) (p+1);rw [B30_eq] at hx0b hx1b;have HX1Z:=ZZ hx1z;have hwp:IntKind.i64.wrap (((p+1:Nat):Int) - 1)=(p:Int):=(IntWalk.i64_in _ (by omega)).trans (by omega);clear hcl7 hz7 hT hx1z;generalize (dr gk).getD p 0=x0 at *;generalize (dr gk).getD (p+1) 0=x1 at *;obtain⟨T,hTe⟩:∃T:Nat,T=x0+B30*x1:=⟨_,rfl⟩;have HTE:=ZZ hTe;have hTb:T≤1152921504606846975:=by rw [hTe,B30_eq];omega
       generalize hLg:(dr gk).length=lg at *;have HLg:=ZZ hLg;clear hLg
       by_cases hl2:p+1<lg
       ·have e7:=HZ7.out hl2
        have hw5:IntKind.i64.wrap ((x1:Int)*1073741824)=((x1*1073741824:Nat):Int):=(IntWalk.i64_in _ (by omega)).trans (by omega);have hw6:IntKind.i64.wrap ((x0:Int)+(x1:Int)*1073741824)=(T:Int):=by rw [hTe,B30_eq];exact(IntWalk.i64_in _ (by omega)).trans (by omega)
        clear hTe;obtain⟨b1,hb1⟩:∃b1:Nat,b1=bt+1:=⟨_,rfl⟩;have hw7:IntKind.i64.wrap ((bt:Int)+1)=(b1:Int):=(IntWalk.i64_in _ (by omega)).trans (by omega);have hb1z:((b1:Int) == 0)=false:=by rw [beq_eq_false_iff_ne];omega
        have hb1p:0<b1:=by omega
        have hb1n:¬ b1=0:=by omega
        obtain⟨e1,he1⟩:∃e1:Nat,e1=T / (bt+1):=⟨_,rfl⟩;have hqe:(T:Int) / (b1:Int)=(e1:Int):=by rw [he1,hb1];exact(Int.natCast_ediv T (bt+1)).symm
        obtain⟨dd,hdd⟩:∃dd:Nat,dd=max e1 1:=⟨_,rfl⟩;have hmx:max (e1:Int) 1=(dd:Int):=by omega
        obtain⟨hg1,hg2,hg3⟩:=guess_r HNB.out (by have:=HT.out;rw [←HTE.out] at this;exact this) HNG.out he1 hdd;have he1b:e1≤1152921504606846975:=by rw [he1];exact Nat.le_trans (Nat.div_le_self _ _) hTb
        have hwe:IntKind.i64.wrap (e1:Int)=(e1:Int):=IntWalk.i64_in _ (by omega);have HG1:=ZZ hg1;have HG2:=ZZ hg2;have hdb2:dd≤1152921504606846975:=by omega
        have HROOM:=ZZ (digit_room HC.out HDB.out HR.out hg1);have hroom:c+dd<1073741824:=by have:=HROOM.out;rw [B30_eq] at this;exact this
        have hwc:IntKind.i64.wrap ((c:Int)+(dd:Int))=((c+dd:Nat):Int):=(IntWalk.i64_in _ (by omega)).trans (by omega);have HB7:=ZZ (HBK7.out.drewN q7);have hci:=HB7.out.cell k (by rw [List.length_set];exact HKL.out);rw [show (qs.set k c).getD k 0=c by simp [List.getD_eq_getElem?_getD,HKL.out]] at hci;have hfi:=HB7.out.frozen k;have hmsl:(qs.length:Nat)=ms.length:=HQ.out;clear hb1 he1 hdd hg1 hg2 hg3;go_wp2_with fail;have HW8:=ZZ ((HWr.out.mono (av wr q7)).set_ (i:=k) (x:=.int .i64 (((c+dd:Nat):Nat):Int)) HOr.out);have HB8:=ZZ (HB7.out.set_ k (c+dd));have HE8:=ZZ (show Below w4.heap.size w4 ((wr.drewN q7).setCell ⟨w4.heap.size,k,none⟩ (.int .i64 (((c+dd:Nat):Nat):Int))) from (al HBE7.out (av wr q7)).setCell (Nat.le_refl _) _);have hpc:((c+dd:Nat):Int)=(c:Int)+(dd:Int):=by omega
        rw [hpc] at HW8 HB8 HE8;clear hpc;generalize (wr.drewN q7).setCell ⟨w4.heap.size,k,none⟩ (.int .i64 ((c:Int)+(dd:Int)))=W8 at *;refine(small_r dd (by omega) _).mono ?_;rintro e w8 ⟨v8,rfl,h8,k8⟩;have H8:=ZZ h8;have K8:=ZZ k8;clear h8 k8
        have SD:=ZZ (show Sr dd by
         unfold Sr;exact Nat.le_trans (dig_length_le B30_two (k:=2) (by rw [B30_eq];omega)) (by omega))
        go_wp2_with fail;refine(times_r _ v8 N dd _ (HN.out.mono (al HE8.out K8.out)) H8.out SN.out SD.out).mono ?_
        rintro e w9 ⟨v9,rfl,h9,k9⟩;have H9:=ZZ h9;have K9:=ZZ (al K8.out k9);clear h9 k9;go_wp2_with fail;refine(minus_f _ v9 gk (N*dd) _ (HW8.out.mono K9.out) H9.out SG.out (by rw [Nat.mul_comm];exact HG1.out)).mono ?_;rintro e w10 ⟨v10,rfl,h10,k10,hfr⟩
        have HNE10:=ZZ (show v10.ownBlock≠some w4.heap.size from fun h=>by
         have h1:=hfr _ h;have h2:=HB8.out.lt;have h3:=K9.out.size
         omega)
        have HE10:=ZZ (al HE8.out (al K9.out k10));have HB10:=ZZ (HB8.out.ext (al K9.out k10));have H10:=ZZ h10;clear h10 k10 hfr;go_wp2_with fail
        go_roundg (gk - N*dd)
        case measure=>
         have h1:=HG2.out;have h2:=HG1.out;have h3:=HN0.out;have h4:N*1≤N*dd:=Nat.mul_le_mul_left _ h1;rw [Nat.mul_comm dd N] at h2;omega
        case rel=>
         refine⟨c+dd,H10,HNE10,?_,HROOM.out,by have:=HB10.out;rw [List.set_set] at this;exact this,HE10.out⟩;have h1:=HC.out;have h2:=HG1.out;rw [Nat.mul_comm dd N] at h2;rw [Nat.add_mul,Nat.mul_comm dd N];omega
       ·have hx1:x1=0:=HX1Z.out (by omega)
        have hT0:T=x0:=by rw [hTe,hx1];omega
        clear hTe hx1;subst hT0;obtain⟨b1,hb1⟩:∃b1:Nat,b1=bt+1:=⟨_,rfl⟩;have hw7:IntKind.i64.wrap ((bt:Int)+1)=(b1:Int):=(IntWalk.i64_in _ (by omega)).trans (by omega);have hb1z:((b1:Int) == 0)=false:=by rw [beq_eq_false_iff_ne];omega
        have hb1p:0<b1:=by omega
        have hb1n:¬ b1=0:=by omega
        obtain⟨e1,he1⟩:∃e1:Nat,e1=T / (bt+1):=⟨_,rfl⟩;have hqe:(T:Int) / (b1:Int)=(e1:Int):=by rw [he1,hb1];exact(Int.natCast_ediv T (bt+1)).symm
        obtain⟨dd,hdd⟩:∃dd:Nat,dd=max e1 1:=⟨_,rfl⟩;have hmx:max (e1:Int) 1=(dd:Int):=by omega
        obtain⟨hg1,hg2,hg3⟩:=guess_r HNB.out (by have:=HT.out;rw [←HTE.out] at this;exact this) HNG.out he1 hdd;have he1b:e1≤1152921504606846975:=by rw [he1];exact Nat.le_trans (Nat.div_le_self _ _) hTb
        have hwe:IntKind.i64.wrap (e1:Int)=(e1:Int):=IntWalk.i64_in _ (by omega);have HG1:=ZZ hg1;have HG2:=ZZ hg2;have hdb2:dd≤1152921504606846975:=by omega
        have HROOM:=ZZ (digit_room HC.out HDB.out HR.out hg1);have hroom:c+dd<1073741824:=by have:=HROOM.out;rw [B30_eq] at this;exact this
        have hwc:IntKind.i64.wrap ((c:Int)+(dd:Int))=((c+dd:Nat):Int):=(IntWalk.i64_in _ (by omega)).trans (by omega);have HB7:=ZZ (HBK7.out.drewN q7);have hci:=HB7.out.cell k (by rw [List.length_set];exact HKL.out);rw [show (qs.set k c).getD k 0=c by simp [List.getD_eq_getElem?_getD,HKL.out]] at hci;have hfi:=HB7.out.frozen k;have hmsl:(qs.length:Nat)=ms.length:=HQ.out;clear hb1 he1 hdd hg1 hg2 hg3;go_wp2_with fail;have HW8:=ZZ ((HWr.out.mono (av wr q7)).set_ (i:=k) (x:=.int .i64 (((c+dd:Nat):Nat):Int)) HOr.out);have HB8:=ZZ (HB7.out.set_ k (c+dd));have HE8:=ZZ (show Below w4.heap.size w4 ((wr.drewN q7).setCell ⟨w4.heap.size,k,none⟩ (.int .i64 (((c+dd:Nat):Nat):Int))) from (al HBE7.out (av wr q7)).setCell (Nat.le_refl _) _);have hpc:((c+dd:Nat):Int)=(c:Int)+(dd:Int):=by omega
        rw [hpc] at HW8 HB8 HE8;clear hpc;generalize (wr.drewN q7).setCell ⟨w4.heap.size,k,none⟩ (.int .i64 ((c:Int)+(dd:Int)))=W8 at *;refine(small_r dd (by omega) _).mono ?_;rintro e w8 ⟨v8,rfl,h8,k8⟩;have H8:=ZZ h8;have K8:=ZZ k8;clear h8 k8
        have SD:=ZZ (show Sr dd by
         unfold Sr;exact Nat.le_trans (dig_length_le B30_two (k:=2) (by rw [B30_eq];omega)) (by omega))
        go_wp2_with fail;refine(times_r _ v8 N dd _ (HN.out.mono (al HE8.out K8.out)) H8.out SN.out SD.out).mono ?_
        rintro e w9 ⟨v9,rfl,h9,k9⟩;have H9:=ZZ h9;have K9:=ZZ (al K8.out k9);clear h9 k9;go_wp2_with fail;refine(minus_f _ v9 gk (N*dd) _ (HW8.out.mono K9.out) H9.out SG.out (by rw [Nat.mul_comm];exact HG1.out)).mono ?_;rintro e w10 ⟨v10,rfl,h10,k10,hfr⟩
        have HNE10:=ZZ (show v10.ownBlock≠some w4.heap.size from fun h=>by
         have h1:=hfr _ h;have h2:=HB8.out.lt;have h3:=K9.out.size
         omega)
        have HE10:=ZZ (al HE8.out (al K9.out k10));have HB10:=ZZ (HB8.out.ext (al K9.out k10));have H10:=ZZ h10;clear h10 k10 hfr;go_wp2_with fail
        go_roundg (gk - N*dd)
        case measure=>
         have h1:=HG2.out;have h2:=HG1.out;have h3:=HN0.out;have h4:N*1≤N*dd:=Nat.mul_le_mul_left _ h1;rw [Nat.mul_comm dd N] at h2;omega
        case rel=>
         refine⟨c+dd,H10,HNE10,?_,HROOM.out,by have:=HB10.out;rw [List.set_set] at this;exact this,HE10.out⟩;have h1:=HC.out;have h2:=HG1.out;rw [Nat.mul_comm dd N] at h2;rw [Nat.add_mul,Nat.mul_comm dd N];omega
theorem divided_r (va vb:Value) (m n:Nat) (h0:0<n) (w:World) (ha:Wr w va m) (hb:Wr w vb n) (sa:(dr m).length≤549755813888) (sb:(dr n).length≤549755813888):Calls Tryz.prog 96 #[va,vb] w fun e w'=>∃v u,e=.returned (.tuple #[v,u])∧Wr w' v (m / n)∧Wr w' u (m % n)∧Ext w w':=
 (divided_f va vb m n h0 w ha hb sa sb).mono fun e w' ⟨v,u,h1,h2,h3,h4,_⟩=>⟨v,u,h1,h2,h3,h4⟩
end Go.Proofs.YtkoaakefgacokaaGreatDoor
