/- The reference's quotients and rests of polynomials. Printed by gen_kp.py. -/
import Derived.Test.YtoefieefcndlkaaGreatDoorGKm
import Derived.Test.YtoefieefcndlkaaGreatDoorGKe
set_option linter.unusedVariables false
set_option maxRecDepth 100000
set_option maxHeartbeats 64000000
namespace Go.Proofs.YtoefieefcndlkaaGreatDoor
open Go Go.RowKit
set_option linter.unusedSimpArgs false
theorem divU_pad (z q:List Rat) (h0:0<q.length) (ht:topF q≠0):∀(n:Nat) (quo rest:List Rat),(q.length≤rest.length→rest.length - q.length<quo.length)→divU n (quo ++ z) rest q=((divU n quo rest q).1 ++ z,(divU n quo rest q).2)
 | 0,quo,rest,_=>rfl
 | n+1,quo,rest,hk=>by
  show (if rest.length<q.length then (quo ++ z,rest) else divU n ((quo ++ z).set (rest.length - q.length) (topF rest / topF q)) (nextR rest q) q)=((if rest.length<q.length then (quo,rest) else divU n (quo.set (rest.length - q.length) (topF rest / topF q)) (nextR rest q) q).1 ++ z,(if rest.length<q.length then (quo,rest) else divU n (quo.set (rest.length - q.length) (topF rest / topF q)) (nextR rest q) q).2)
  by_cases h:rest.length<q.length
  ·rw [if_pos h,if_pos h]
  ·rw [if_neg h,if_neg h]
   have h1:=hk (by omega);have h2:=next_len rest q (by omega) h0 ht;rw [List.set_append_left _ _ h1];exact divU_pad z q h0 ht n _ _ (fun h3=>by rw [List.length_set];omega)
theorem trim_pad (l:List Rat) (k:Nat):trimF (l ++ List.replicate k 0)=trimF l:=by
 refine trim_co fun i=>?_;unfold co;rw [List.getElem?_append]
 split
 ·rfl
 ·rename_i h
  rw [List.getElem?_replicate,List.getElem?_eq_none (by omega:l.length≤i)]
  split <;> rfl
theorem trim_zeros (k:Nat):trimF (List.replicate k (0:Rat))=[]:=by
 have h:=trim_pad [] k;rw [List.nil_append] at h;rw [h];rfl
theorem div_ref {p q:List Rat} (hq:trimF q≠[]):divF p q=(trimF (divU ((trimF p).length+1) (List.replicate (trimF p).length 0) (trimF p) (trimF q)).1,(divU ((trimF p).length+1) (List.replicate (trimF p).length 0) (trimF p) (trimF q)).2):=by
 have h0:0<(trimF q).length:=List.length_pos_iff.2 hq;unfold divF
 rcases Nat.lt_or_ge (trimF p).length (trimF q).length with h|h
 ·have e:∀quo,divU ((trimF p).length+1) quo (trimF p) (trimF q)=(quo,trimF p):=fun quo=>if_pos h
  rw [e,e,trim_zeros,trim_zeros]
 ·have e:List.replicate (trimF p).length (0:Rat)=List.replicate ((trimF p).length+1 - (trimF q).length) 0 ++ List.replicate ((trimF q).length - 1) 0:=by
   rw [List.replicate_append_replicate];congr 1;omega
  rw [e,divU_pad _ _ h0 (top_trim_ne hq) _ _ _ (fun _=>by rw [List.length_replicate];omega),trim_pad]
theorem les_ref (rest q:List Rat) (hl:q.length≤rest.length) (h0:0<q.length) (ht:topF q≠0):trimF (lesL (rest.take (rest.length - 1)) q (rest.length - q.length) (topF rest / topF q) (q.length - 1))=nextR rest q:=by
 unfold nextR;refine trim_co fun i=>?_;have e1:co (lesL rest q (rest.length - q.length) (topF rest / topF q) q.length) i=co rest i+co (List.replicate (rest.length - q.length) 0 ++ q) i*(-(topF rest / topF q)):=co_les rest q (by omega) _ i;rw [e1,co_shift];have hlt:(rest.take (rest.length - 1)).length=rest.length - 1:=by rw [List.length_take];omega
 rcases Nat.lt_or_ge i (rest.length - 1) with hi|hi
 ·have h:=les_get (rest.take (rest.length - 1)) q (rest.length - q.length) (topF rest / topF q) (q.length - 1) (i:=i) (by omega)
  have e2:co (rest.take (rest.length - 1)) i=co rest i:=by unfold co;rw [List.getElem?_take,if_pos hi]
  have e:co (lesL (rest.take (rest.length - 1)) q (rest.length - q.length) (topF rest / topF q) (q.length - 1)) i=if rest.length - q.length≤i∧i<rest.length - q.length+(q.length - 1) then co rest i - topF rest / topF q*co q (i - (rest.length - q.length)) else co rest i:=by
   show ((lesL _ q _ _ _)[i]?).getD 0=_
   rw [h,e2];rfl
  rw [e]
  by_cases h1:i<rest.length - q.length
  ·rw [if_neg (by omega),if_pos h1];grind
  ·rw [if_pos (by omega),if_neg h1];grind
 ·rw [co_ge (p:=lesL _ q _ _ _) (by rw [les_len,hlt];exact hi)]
  rcases Nat.lt_or_ge i rest.length with h1|h1
  ·obtain rfl:i=rest.length - 1:=by omega
   rw [if_neg (by omega),show rest.length - 1 - (rest.length - q.length)=q.length - 1 by omega]
   show 0=topF rest+topF q*(-(topF rest / topF q))
   rw [Rat.div_def]
   have:=Rat.mul_inv_cancel (topF q) ht
   grind
  ·rw [co_ge h1,if_neg (by omega),co_ge (p:=q) (by omega)];grind
theorem take_lb {P:Program} {md:Region.Mode} {ops:Array Oper} {Q:Exit→Act→World→Prop} {S:World→Prop} {z:Nat} (i:Nat) (d:Tmp) {oi:Oper} {v:Value} {fuel:Nat} {listed:Array Bool} {a a':Act} {w:World} (h:AnyL P md ops Q S z fuel (listed.setIfInBounds i true) a' w) (hi:ops[i]?=some oi:=by exact rfl) (hd:oi.dst=some d:=by exact rfl) (hs:Region.noSelect ops=true:=by kernel_rfl) (hf:Region.free md ops listed i=true:=by kernel_rfl) (hr:(Region.ready md ops listed).contains i=true:=by kernel_rfl) (hch:(chainB md ops z && cloB md ops listed && decide (listed.size=ops.size) && decide (i≠z))=true:=by kernel_rfl) (hQ:∀c a w,Q (.panic c) (a.put (some d) v) w→Q (.panic c) a w:=by exact fun _ _ _ h=>h) (hy:YieldsIf P ops S oi v a:=by refine Or.inl ⟨rfl,?_⟩;intro w hSw;(try dsimp only at hSw);go_simp;try with_reducible rfl) (hS:S w:=by assumption) (ha:a.put (some d) v=a':=by simp only [Act.put,List.setIfInBounds_toArray,List.set_cons_zero,List.set_cons_succ] <;> rfl):AnyL P md ops Q S z (fuel+1) listed a w:=by
 subst ha;exact take_L (i:=i) d hi hd hs hf hr hch hQ hy hS h
theorem PlW.imp {W:World} {C D:Nat→Prop} {g:Nat} {l:List Rat} (h:PlW W C g l) (k:∀b,C b→D b):PlW W D g l:=by
 obtain⟨cur,h1,h2,h3⟩:=h;refine⟨cur,h1,h2,fun i q hq=>?_⟩;obtain⟨s,A,n,ca,B,m,cb,c0,c1,c2,hn,hb⟩:=h3 i q hq;exact⟨s,A,n,ca,B,m,cb,c0,c1,c2,hn,hb.imp k⟩
theorem over_f (M:Nat) (hM:M≤274877906944) (vx vy:Value) (x y:Rat) (w:World) (hx:Nr w vx x) (hy:Nr w vy y) (bx:Bq M x) (by_:Bq M y) (h0:y≠0):Calls Tryz.prog 90 #[vx,vy] w fun e w'=>∃v,e=.returned v∧Nr w' v (x / y)∧Ext w w'∧FrN w.heap.size v:=by
 obtain⟨s1,A1,k1,ca1,B1,l1,cb1,rfl,-⟩:=hx.form;obtain⟨s2,A2,k2,ca2,B2,l2,cb2,rfl,-⟩:=hy.form;have HX:=ZZ hx;have HY:=ZZ hy;have BX:=ZZ bx;have BY:=ZZ by_;have H0:=ZZ h0;have HM:=ZZ hM;have e1:=ab w (.cells #[.int .i64 s1,.slice A1 k1 ca1,.slice B1 l1 cb1] 75);have e2:=ab (w.alloc (.cells #[.int .i64 s1,.slice A1 k1 ca1,.slice B1 l1 cb1] 75)) (.cells #[.int .i64 s2,.slice A2 k2 ca2,.slice B2 l2 cb2] 75);have e3:=ab ((w.alloc (.cells #[.int .i64 s1,.slice A1 k1 ca1,.slice B1 l1 cb1] 75)).alloc (.cells #[.int .i64 s2,.slice A2 k2 ca2,.slice B2 l2 cb2] 75)) (.cells #[.int .i64 0,.slice none 0 0,.slice none 0 0] 75);have hz:=heap_alloc_new ((w.alloc (.cells #[.int .i64 s1,.slice A1 k1 ca1,.slice B1 l1 cb1] 75)).alloc (.cells #[.int .i64 s2,.slice A2 k2 ca2,.slice B2 l2 cb2] 75)) (.cells #[.int .i64 0,.slice none 0 0,.slice none 0 0] 75);have hz:=show (((w.alloc (.cells #[.int .i64 s1,.slice A1 k1 ca1,.slice B1 l1 cb1] 75)).alloc (.cells #[.int .i64 s2,.slice A2 k2 ca2,.slice B2 l2 cb2] 75)).alloc (.cells #[.int .i64 0,.slice none 0 0,.slice none 0 0] 75)).heap[w.heap.size+1+1]?=some (.cells #[.int .i64 0,.slice none 0 0,.slice none 0 0] 75 (0,0)) by simpa using hz
 have HZ:=ZZ hz;have EW:=ZZ (ak e1 (ak e2 e3));have LE:=ZZ (show w.heap.size≤w.heap.size+1+1 from by omega);clear hx hy bx by_ h0 hM e1 e2 e3 hz
 go_enter Tryz.func90,Tryz.ntmps90
 go_wp2_with fail;refine(div_f M HM.out _ _ x y _ (HX.out.mono EW.out) (HY.out.mono EW.out) BX.out BY.out H0.out).mono ?_
 rintro e w4 ⟨v4,rfl,h4,k4,f4⟩;obtain⟨s4,A4,k4',ca4,B4,l4,cb4,rfl,-⟩:=h4.form;have E4:=ZZ (ak k4 (ab w4 (.cells #[.int .i64 s4,.slice A4 k4' ca4,.slice B4 l4 cb4] 75)));have H4:=ZZ (h4.mono (ab w4 (.cells #[.int .i64 s4,.slice A4 k4' ca4,.slice B4 l4 cb4] 75)));have F4:=ZZ (f4.mono EW.out.size);have hz4:=(E4.out.block _ (lt_of_block HZ.out)).trans HZ.out;have HZ4:=ZZ hz4;obtain⟨z0,z1,z2,zf0,zf1,zf2⟩:=ai hz4;clear h4 k4 hz4 f4;go_wp2_with fail;refine bodyPost_ret (v:=.agg #[.int .i64 s4,.slice A4 k4' ca4,.slice B4 l4 cb4]) (by simp [results,Tryz.f90];go_simp) rfl ?_;exact⟨_,rfl,Nr.put_z H4.out HZ4.out _ _ _,ao (ak EW.out E4.out) LE.out _ _ _,F4.out⟩
theorem pdivided_n (M:Nat) (hM0:0<M) (hM:3*M≤274877906944) (vp vq:Value) (p q:List Rat) (hlp:p.length≤100000) (hlq:q.length≤100000) (w:World) (hp:PlR w vp p) (hq:PlR w vq q) (hq0:trimF q≠[]) (hok:divOk M p q=true):Calls Tryz.prog 34 #[vp,vq] w fun e w'=>∃v1 v2,e=.returned (.tuple #[v1,v2])∧PlR w' v1 (divF p q).1∧PlR w' v2 (divF p q).2∧Ext w w':=by
 unfold divOk at hok;rw [Bool.and_eq_true,Bool.and_eq_true] at hok;obtain⟨⟨hsp,hsq⟩,hdb⟩:=hok;obtain⟨D,hD⟩:∃D,divU ((trimF p).length+1) (List.replicate (trimF p).length 0) (trimF p) (trimF q)=D:=⟨_,rfl⟩;have HD0:=ZZ (show divF p q=(trimF D.1,D.2) by rw [div_ref hq0,hD]);obtain⟨R,hR⟩:∃R,trimF p=R:=⟨_,rfl⟩;obtain⟨Q,hQ⟩:∃Q,trimF q=Q:=⟨_,rfl⟩;have HLR:=ZZ (show R.length≤100000 by rw [←hR];exact Nat.le_trans (trim_le p) hlp);have HLQ:=ZZ (show Q.length≤100000 by rw [←hQ];exact Nat.le_trans (trim_le q) hlq);have HBQ:=ZZ (show ∀x ∈ Q,Bq M x from fun x hx=>sm_of hsq x (trim_mem (by rw [hQ];exact hx)));have HTQ:=ZZ (show topF Q≠0 by rw [←hQ];exact top_trim_ne hq0);rw [hR,hQ] at hD hdb;rw [hQ] at hq0;obtain⟨n,hn⟩:∃n,Q.length=n+1:=⟨Q.length - 1,by have:=List.length_pos_iff.2 hq0;omega⟩;obtain⟨m,hm⟩:∃m,R.length=m:=⟨_,rfl⟩;have HTR:=ZZ hR;have HTQ':=ZZ hQ;have HP:=ZZ hp;have HQ:=ZZ hq;have HLP:=ZZ hlp;have HLQ0:=ZZ hlq;have HDU:=ZZ hD;have HDB:=ZZ hdb;have HN:=ZZ hn;have HMM:=ZZ hm;have HM:=ZZ hM;have HM0:=ZZ hM0;have hun:undef=.tuple #[]:=rfl;clear hp hq hlp hlq hM hM0 hD hdb hn hm hq0 hsp hsq hR hQ
 go_enter Tryz.func34,Tryz.ntmps34
 go_wp2_with fail;refine(trim_n _ p (by have:=HLP.out;omega) _ HP.out).mono ?_
 rintro e w1 ⟨v1,rfl,h1,k1⟩;rw [HTR.out] at h1;have H1:=ZZ h1;have K1:=ZZ k1;clear h1 k1;go_wp2_with fail;refine(trim_n _ q (by have:=HLQ0.out;omega) _ (HQ.out.mono K1.out)).mono ?_;rintro e w2 ⟨v2,rfl,h2,k2⟩;rw [HTQ'.out] at h2;obtain⟨Aq,capQ,eq_⟩:=h2.form;rw [HN.out] at eq_;subst eq_;obtain⟨Ar,capr,er⟩:=H1.out.form;rw [HMM.out] at er;subst er;have H2:=ZZ h2;have K2:=ZZ (ak K1.out k2);have HR2:=ZZ (H1.out.mono k2);clear h2 k2;have qmk:=mk_refs m (m:Int) rfl (by have h1:=HLR.out;have h4:=HMM.out;omega) w2
 go_upto_region 3 with (fail)
 go_wp2_with fail;obtain⟨gq,hgq⟩:∃g,w2.heap.size=g:=⟨_,rfl⟩
 have E3:=ZZ (ab w2 (.cells (zrwR m) 75));have PQ0:=ZZ (show PlW (w2.alloc (.cells (zrwR m) 75)) (·≠gq) gq (List.replicate m 0) from hgq ▸ plw_new w2 m _);have PR0:=ZZ (show PlC (w2.alloc (.cells (zrwR m) 75)) (·≠gq) (.slice Ar m capr) R from (HR2.out.old.imp fun b hb e=>by subst e;omega).mono E3.out);have HG2:=ZZ (show w2.heap.size≤gq from by omega);generalize World.alloc w2 (.cells (zrwR m) _)=W3 at *;rw [hgq];clear hgq qmk
 go_loopg [0] (m+1) (fun k r wr=>∃(rest quo:List Rat) (Ax:Option Addr) (lr cx:Nat),r=.slice Ax lr cx∧Hid (rest.length=lr)∧Hid (divB M k rest Q=true)∧Hid (divU k quo rest Q=D)∧Hid (quo.length=m)∧Hid (lr≤m)∧Hid (PlC wr (·≠gq) (.slice Ax lr cx) rest)∧Hid (PlW wr (·≠gq) gq quo)∧Hid (Ext w2 wr))
 case atStart=>
  exact⟨R,List.replicate m 0,Ar,m,capr,rfl,HMM,ZZ (by rw [←HMM.out];exact HDB.out),ZZ (by rw [←HMM.out];exact HDU.out),ZZ (List.length_replicate ..),ZZ (Nat.le_refl _),PR0,PQ0,E3⟩
 case round=>
  obtain⟨rest,quo,Ax,lr,cx,rfl,HLE,HDBR,HDUR,HQL,HLM,HPR,HPO,HE⟩:=hrel;rename World=>WR
  rcases Nat.lt_or_ge lr (n+1) with hlt|hge
  ·have q1:decide ((n:Int)+1≤(lr:Int))=false:=decide_eq_false (by omega)
   have q1':decide (n+1≤lr)=false:=decide_eq_false (by omega);have q1'':decide (n<lr)=false:=decide_eq_false (by omega)
   have HDE:=ZZ (show D=(quo,rest) from by
    rw [←HDUR.out]
    cases gk with
    | zero=>rfl
    | succ k=>exact if_pos (by rw [HLE.out,HN.out];exact hlt))
   have HPOP:=ZZ (HPO.out.plc HQL.out (Nat.le_refl m) (D:=fun _=>True) (fun _ _=>trivial) trivial).pl;clear hlt;go_wp2_with fail;refine(trim_n _ quo (by have h1:=HQL.out;have h3:=HLR.out;have h4:=HMM.out;omega) _ HPOP.out).mono ?_;rintro e w' ⟨v',rfl,hn,kk⟩;have HN2:=ZZ hn;have HK2:=ZZ kk;clear hn kk;go_wp2_with fail;refine bodyPost_ret (v:=.tuple #[v',.slice Ax lr cx]) (by simp [results,Tryz.f34]) rfl ?_;refine⟨_,_,rfl,?_,?_,ak K2.out (ak HE.out HK2.out)⟩
   ·rw [HD0.out,HDE.out];exact HN2.out
   ·rw [HD0.out,HDE.out];exact HPR.out.pl.mono HK2.out
  ·obtain⟨kk,rfl⟩:∃kk,lr=kk+n+1:=⟨lr - (n+1),by omega⟩
   have hnl:¬ rest.length<Q.length:=by rw [HLE.out,HN.out];omega
   obtain⟨ko,rfl⟩:∃k,gk=k+1:=⟨gk - 1,by
    rcases Nat.eq_zero_or_pos gk with h|h
    ·subst h;exact absurd (of_decide_eq_true HDBR.out) hnl
    ·omega⟩
   have HB2:=ZZ (show smB M rest=true∧divB M ko (nextR rest Q) Q=true from by
    have h:=HDBR.out;unfold divB at h;rw [if_neg hnl,Bool.and_eq_true] at h;exact h)
   have HBR:=ZZ (sm_of HB2.out.1);have HKK:=ZZ (show rest.length - Q.length=kk from by rw [HLE.out,HN.out];omega)
   have HU2:=ZZ (show divU ko (quo.set kk (topF rest / topF Q)) (nextR rest Q) Q=D from by
    have h:=HDUR.out;unfold divU at h;rw [if_neg hnl,HKK.out] at h;exact h)
   obtain⟨cq,hcq⟩:∃c,topF rest / topF Q=c:=⟨_,rfl⟩;have HCQ:=ZZ hcq;have HTOP:=ZZ (top_get (show rest.length=kk+n+1 from HLE.out));have HTOPQ:=ZZ (top_get HN.out);have BT:=ZZ (HBR.out _ (List.mem_of_getElem? HTOP.out));have BTQ:=ZZ (HBQ.out _ (List.mem_of_getElem? HTOPQ.out));have BCC:=ZZ (show Bq (M+M) cq from by rw [←HCQ.out];exact BT.out.div BTQ.out HTQ.out);have q1:decide ((n:Int)+1≤((kk+n+1:Nat):Int))=true:=decide_eq_true (by omega);have q1b:decide ((n:Int)+1≤(kk:Int)+(n:Int)+1)=true:=decide_eq_true (by omega);have q1':decide (n+1≤kk+n+1)=true:=decide_eq_true (by omega)
   have q3:IntKind.i64.wrap ((kk:Int)+(n:Int)+1 - ((n:Int)+1))=(kk:Int):=by
    have h1:=HLM.out;have h3:=HLR.out;have h4:=HMM.out;rw [show (kk:Int)+(n:Int)+1 - ((n:Int)+1)=(kk:Int) by omega];exact IntWalk.i64_in _ (by omega)
   have q3a:IntKind.i64.wrap ((kk:Int)+(n:Int)+1 - 1)=(kk:Int)+(n:Int):=by
    have h1:=HLM.out;have h3:=HLR.out;have h4:=HMM.out;rw [show (kk:Int)+(n:Int)+1 - 1=(kk:Int)+(n:Int) by omega];exact IntWalk.i64_in _ (by omega)
   have q3b:IntKind.i64.wrap ((n:Int)+1 - 1)=(n:Int):=by
    have h1:=HLM.out;have h3:=HLR.out;have h4:=HMM.out;rw [show (n:Int)+1 - 1=(n:Int) by omega];exact IntWalk.i64_in _ (by omega)
   have q3c:IntKind.i64.wrap ((kk:Int)+(n:Int))=(kk:Int)+(n:Int):=by
    have h1:=HLM.out;have h3:=HLR.out;have h4:=HMM.out;exact IntWalk.i64_in _ (by omega)
   have q3d:IntKind.i64.wrap (n:Int)=(n:Int):=by
    have h1:=HLM.out;have h3:=HLR.out;have h4:=HMM.out;exact IntWalk.i64_in _ (by omega)
   have q4a:(kk:Int)+(n:Int)<(kk:Int)+(n:Int)+1:=by omega
   have q4b:(n:Int)<(n:Int)+1:=by omega
   have q5a:(0:Int)≤(kk:Int)+(n:Int):=by omega
   have q5b:(0:Int)≤(n:Int):=by omega
   have q6a:((kk:Int)+(n:Int)).toNat=kk+n:=by omega
   have q6b:((kk:Int)+(n:Int)+1).toNat=kk+n+1:=by omega
   have HKN:=ZZ (show kk<m from by have h1:=HLM.out;omega);obtain⟨b,o,s1,A1,k1,ca1,B1,l1,cb1,rfl,hbq,c0,c1,c2,hn1,hb1⟩:=HPR.out.at_ HTOP.out;have HPQ:=ZZ (H2.out.mono HE.out);obtain⟨b2,o2,q2,rfl,hq2,htri2⟩:=HPQ.out.at_ (show n<n+1 by omega);rw [HTOPQ.out] at hq2;obtain rfl:topF Q=q2:=Option.some.inj hq2;obtain⟨s2,A2,k2,ca2,B2,l2,cb2,d0,d1,d2,hn2⟩:=htri2;have N1:=ZZ hn1;have N2:=ZZ hn2;have HGL:=ZZ (show gq<WR.heap.size from by obtain⟨cur,hh,-⟩:=HPO.out;exact lt_of_block hh);have HC6:=ZZ (show ∀W,Ext WR W→W.cell? ⟨b,o+(kk+n)*3,none⟩=some (.int .i64 s1)∧W.cell? ⟨b,o+(kk+n)*3+1,none⟩=some (.slice A1 k1 ca1)∧W.cell? ⟨b,o+(kk+n)*3+2,none⟩=some (.slice B1 l1 cb1)∧W.cell? ⟨b2,o2+n*3,none⟩=some (.int .i64 s2)∧W.cell? ⟨b2,o2+n*3+1,none⟩=some (.slice A2 k2 ca2)∧W.cell? ⟨b2,o2+n*3+2,none⟩=some (.slice B2 l2 cb2) from fun W k=>⟨am k c0,am k c1,am k c2,am k d0,am k d1,am k d2⟩);clear hnl hcq hge hq2 hn1 hb1 hn2 hbq c0 c1 c2 d0 d1 d2
   go_upto_region 6 with (fail)
   refine wp_region_noPanic ?_;refine wp_region_held_drew (S:=fun W=>W.cell? ⟨b,o+(kk+n)*3,none⟩=some (.int .i64 s1)∧W.cell? ⟨b,o+(kk+n)*3+1,none⟩=some (.slice A1 k1 ca1)∧W.cell? ⟨b,o+(kk+n)*3+2,none⟩=some (.slice B1 l1 cb1)∧W.cell? ⟨b2,o2+n*3,none⟩=some (.int .i64 s2)∧W.cell? ⟨b2,o2+n*3+1,none⟩=some (.slice A2 k2 ca2)∧W.cell? ⟨b2,o2+n*3+2,none⟩=some (.slice B2 l2 cb2)) (by kernel_rfl) (HC6.out _ (ac _)) (fun hHeld=>?_);refine take_a 0 29 ?_;refine take_a 1 30 ?_;refine take_a 2 31 ?_;refine take_a 3 32 ?_;refine take_a 4 33 ?_;refine take_a 5 34 ?_;refine take_a 6 35 ?_;refine take_a 7 36 ?_;refine take_a 8 37 ?_;refine take_a 9 38 ?_;refine take_a 10 39 ?_;refine two_p (i:=11) (j:=12) rfl rfl (by kernel_rfl) (fun K hK=>?sta) (fun K hK=>?stb)
   case' sta=>
    go_simp
    go_at_call 90
    refine(over_f M (by have:=HM.out;omega) _ _ (topF rest) (topF Q) _ (N1.out.mono (ac _)) (N2.out.mono (ac _)) BT.out BTQ.out HTQ.out).mono ?_;rintro e w4 ⟨v4,rfl,h4,kk4,f4⟩;rw [HCQ.out] at h4;obtain⟨s4,A4,k4,ca4,B4,l4,cb4,rfl,-⟩:=h4.form;have H4:=ZZ h4;have hx1:=ZZ (show Ext WR w4 from ak (ac _) kk4);have F4:=ZZ (f4.bln (C:=(·≠gq)) (fun b hb e=>by subst e;exact Nat.lt_irrefl _ (Nat.lt_of_lt_of_le HGL.out (Nat.le_trans (ac WR).size hb))));clear h4 kk4 f4
    try go_wp2_with fail
    refine hK.out _ _ (HC6.out _ hx1.out) (fun hHeld=>?_);clear hK K
    try simp only [Act.put,lyA,lyB,lyC]
    refine call_p (i:=12) (some 9) rfl rfl (by kernel_rfl) (fun K hK=>?_)
    go_simp
    have EA:=ZZ (ak hx1.out (ab w4 (.cells #[.int .i64 0,.slice none 0 0,.slice none 0 0] 75)));have RA:=ZZ (heap_alloc_new w4 (.cells #[.int .i64 0,.slice none 0 0,.slice none 0 0] 75));have NA:=ZZ (H4.out.mono (ab w4 (.cells #[.int .i64 0,.slice none 0 0,.slice none 0 0] 75)));refine hK.out _ _ (HC6.out _ EA.out) (fun hHeld=>?_);clear hK K
    try simp only [Act.put,lyA,lyB,lyC]
    refine call_p (i:=13) none rfl rfl (by kernel_rfl) (fun K hK=>?_);obtain⟨z0,z1,z2,zf0,zf1,zf2⟩:=ai RA.out
    go_simp
    have RC0:=ZZ (heap_alloc_new w4 (.cells #[.int .i64 s4,.slice A4 k4 ca4,.slice B4 l4 cb4] 75));have NC0:=ZZ (H4.out.mono (ab w4 (.cells #[.int .i64 s4,.slice A4 k4 ca4,.slice B4 l4 cb4] 75)));have HGC:=ZZ (show gq<w4.heap.size from by have h1:=HGL.out;have h2:=hx1.out.size;omega);have K6:=ZZ (ak hx1.out (ab w4 (.cells #[.int .i64 s4,.slice A4 k4 ca4,.slice B4 l4 cb4] 75)));refine hK.out _ _ (HC6.out _ K6.out) (fun hHeld=>?_);clear hK K
    try simp only [Act.put,lyA,lyB,lyC]
    refine wpAnyH_done (by kernel_rfl) ?_ _;refine NoPanic.normal ?_;clear EA RA NA z0 z1 z2 zf0 zf1 zf2 hHeld hx1 H4;generalize World.alloc w4 (.cells #[.int .i64 s4,.slice A4 k4 ca4,.slice B4 l4 cb4] _)=W7 at *;generalize w4.heap.size=gc at *
   case' stb=>
    go_simp
    have EA:=ZZ (show Ext WR (World.drew (World.alloc WR (.cells #[.int .i64 0,.slice none 0 0,.slice none 0 0] 75))) from ak (ab _ _) (ac _));have RA:=ZZ (show (World.drew (World.alloc WR (.cells #[.int .i64 0,.slice none 0 0,.slice none 0 0] 75))).heap[WR.heap.size]?=some (.cells #[.int .i64 0,.slice none 0 0,.slice none 0 0] 75 (0,0)) from heap_alloc_new WR (.cells #[.int .i64 0,.slice none 0 0,.slice none 0 0] 75));have HGC:=ZZ (show gq<WR.heap.size from HGL.out);have HGE:=ZZ (Nat.le_refl WR.heap.size);refine hK.out _ _ (HC6.out _ EA.out) (fun hHeld=>?_);clear hK K
    try simp only [Act.put,lyA,lyB,lyC]
    generalize World.drew (World.alloc WR (.cells #[.int .i64 0,.slice none 0 0,.slice none 0 0] _))=WA at *;obtain⟨gc,hgc⟩:∃g,WR.heap.size=g:=⟨_,rfl⟩;rw [hgc] at RA HGC;have HGE:=ZZ (show WR.heap.size≤gc from Nat.le_of_eq hgc);rw [hgc];clear hgc;refine call_p (i:=11) (some 40) rfl rfl (by kernel_rfl) (fun K hK=>?_)
    go_simp
    go_at_call 90
    refine(over_f M (by have:=HM.out;omega) _ _ (topF rest) (topF Q) _ (N1.out.mono EA.out) (N2.out.mono EA.out) BT.out BTQ.out HTQ.out).mono ?_;rintro e w4 ⟨v4,rfl,h4,kk4,f4⟩;rw [HCQ.out] at h4;obtain⟨s4,A4,k4,ca4,B4,l4,cb4,rfl,-⟩:=h4.form;have H4:=ZZ h4;have hx1:=ZZ (show Ext WR w4 from ak EA.out kk4);have F4:=ZZ (f4.bln (C:=(·≠gq)) (fun b hb e=>by subst e;have h1:=HGL.out;have h2:=EA.out.size;omega));have RB:=ZZ ((kk4.block _ (lt_of_block RA.out)).trans RA.out);clear h4 kk4 f4
    try go_wp2_with fail
    refine hK.out _ _ (HC6.out _ hx1.out) (fun hHeld=>?_);clear hK K
    try simp only [Act.put,lyA,lyB,lyC]
    refine call_p (i:=13) none rfl rfl (by kernel_rfl) (fun K hK=>?_);obtain⟨z0,z1,z2,zf0,zf1,zf2⟩:=ai RB.out
    go_simp
    have RC0:=ZZ (show (put3at w4 gc 0 (.int .i64 s4) (.slice A4 k4 ca4) (.slice B4 l4 cb4)).heap[gc]?=some (.cells #[.int .i64 s4,.slice A4 k4 ca4,.slice B4 l4 cb4] 75 (0,0)) from by have h:=put3at_row RB.out (.int .i64 s4) (.slice A4 k4 ca4) (.slice B4 l4 cb4) (j:=0);exact h);have NC0:=ZZ (show Nr (put3at w4 gc 0 (.int .i64 s4) (.slice A4 k4 ca4) (.slice B4 l4 cb4)) (.agg #[.int .i64 s4,.slice A4 k4 ca4,.slice B4 l4 cb4]) cq from Nr.put_z H4.out RB.out _ _ _);have K6:=ZZ (show Ext WR (put3at w4 gc 0 (.int .i64 s4) (.slice A4 k4 ca4) (.slice B4 l4 cb4)) from ao hx1.out (by have:=HGE.out;omega) _ _ _);refine hK.out _ _ (HC6.out _ K6.out) (fun hHeld=>?_);clear hK K
    try simp only [Act.put,lyA,lyB,lyC]
    refine wpAnyH_done (by kernel_rfl) ?_ _;refine NoPanic.normal ?_;clear EA RA RB z0 z1 z2 zf0 zf1 zf2 hHeld hx1 H4 HGE;generalize hW7:(World.setCell (World.setCell (World.setCell w4 ⟨gc,0,none⟩ (.int .i64 s4)) ⟨gc,1,none⟩ (.slice A4 k4 ca4)) ⟨gc,2,none⟩ (.slice B4 l4 cb4))=W7;have hW7':put3at w4 gc 0 (.int .i64 s4) (.slice A4 k4 ca4) (.slice B4 l4 cb4)=W7:=hW7;rw [hW7'] at RC0 NC0 K6;clear hW7 hW7'
   all_goals
    have PO7:=ZZ (HPO.out.mono K6.out);have q4:(kk:Int)<(m:Int):=by have:=HKN.out;omega
    have q5:(0:Int)≤(kk:Int):=by omega
    obtain⟨cur7,hh7,-,ht7⟩:=id PO7.out;have zf0:=frozen_row hh7 (kk*3);have zf1:=frozen_row hh7 (kk*3+1);have zf2:=frozen_row hh7 (kk*3+2);obtain⟨q7,hq7⟩:∃q,quo[kk]?=some q:=⟨quo[kk]'(by rw [HQL.out];exact HKN.out),List.getElem?_eq_getElem _⟩;obtain⟨s8,A8,k8,ca8,B8,l8,cb8,z0,z1,z2,-⟩:=ht7 kk q7 hq7;obtain⟨c0,c1,c2,-⟩:=ai RC0.out;clear hh7 ht7 hq7
    go_upto_region 8 with (fail)
    have hcur:kk<quo.length:=by rw [HQL.out];exact HKN.out
    have PO8:=PlW.set PO7.out (fun b hb=>hb) (i:=kk) hcur NC0.out F4.out;have hk8:∀b,b≠gq→(put3at W7 gq (kk*3) (.int .i64 s4) (.slice A4 k4 ca4) (.slice B4 l4 cb4)).heap[b]?=W7.heap[b]?:=fun b hb=>put3at_heap hb _ _ _;have PR8:=(HPR.out.mono K6.out).keep hk8;have NC8:=NC0.out.keepB F4.out hk8;have RC8:=(hk8 gc (Nat.ne_of_gt HGC.out)).trans RC0.out;have E8:Ext w2 (put3at W7 gq (kk*3) (.int .i64 s4) (.slice A4 k4 ca4) (.slice B4 l4 cb4)):=(((ak HE.out K6.out).setCell HG2.out _).setCell HG2.out _).setCell HG2.out _;clear hcur z0 z1 z2 zf0 zf1 zf2 c0 c1 c2 q3 q4 q5 hk8;generalize hW8:(World.setCell (World.setCell (World.setCell W7 ⟨gq,kk*3,none⟩ (.int .i64 s4)) ⟨gq,kk*3+1,none⟩ (.slice A4 k4 ca4)) ⟨gq,kk*3+2,none⟩ (.slice B4 l4 cb4))=W8;have hW8':put3at W7 gq (kk*3) (.int .i64 s4) (.slice A4 k4 ca4) (.slice B4 l4 cb4)=W8:=hW8;rw [hW8'] at PO8 PR8 NC8 RC8 E8;have PO8:=ZZ PO8;have NC8:=ZZ NC8;have RC8:=ZZ RC8;have E8:=ZZ E8;have PT8:=ZZ ((PR8.old.take (show kk+n≤rest.length by rw [HLE.out];omega)))
    have q7a:(kk:Int)+(n:Int)≤(cx:Int):=by
     obtain⟨A',c',e,hc,-⟩:=PR8
     injection e with e1 e2 e3
     have:=HLE.out
     omega
    have q7b:kk+n≤cx:=by omega
    have HLT:=ZZ (show (rest.take (kk+n)).length=kk+n by rw [List.length_take,HLE.out];omega);clear hW8 hW8' PR8
    go_wp2_with (at_builtin;refine wpList_applitC rfl _ _ rfl rfl rfl PT8.out (ae _) (by rw [HLT.out];have h1:=HLM.out;have h3:=HLR.out;have h4:=HMM.out;omega) ?_;intro g c9 w9 hg9 hc9 hp9 he9)
    have HG8:=ZZ hg9;have HC9:=ZZ hc9;have HGQ8:=ZZ (show gq<W8.heap.size from by obtain⟨cur,hh,-⟩:=PO8.out;exact lt_of_block hh);have PW9:=ZZ (show PlW w9 (fun b=>b≠gq∧b≠g) g (rest.take (kk+n)) from hp9.imp fun b hb=>⟨hb.1,by have:=hb.2;omega⟩);have E9:=ZZ he9;clear hg9 hc9 hp9 he9;go_wp2_with fail
    go_loopg [11] n (fun k u wr=>∃j,Hid (j+k=n)∧u=.int .i64 (j:Int)∧Hid (PlW wr (fun b=>b≠gq∧b≠g) g (lesL (rest.take (kk+n)) Q kk cq j))∧Hid (Ext W8 wr))
    case atStart=>exact⟨0,ZZ (Nat.zero_add _),rfl,ZZ (by rw [les_zero];exact PW9.out),E9⟩
    case round=>
     obtain⟨j,HJ,rfl,HO2,HE2⟩:=hrel;rename World=>WI
     rcases Nat.eq_zero_or_pos gk with hz2|hz2
     ·subst hz2
      have HJE:=ZZ (show j=n from HJ.out);have q1n:decide ((j:Int)<(n:Int))=false:=decide_eq_false (by have:=HJ.out;omega);have q1n':decide (j<n)=false:=decide_eq_false (by have:=HJ.out;omega);have HP9:=ZZ (HO2.out.plc (n:=kk+n) (by rw [les_len,HLT.out]) HC9.out (D:=(·≠gq)) (fun b hb=>hb.1) (by have h1:=HG8.out;have h2:=HGQ8.out;omega));go_wp2_with fail;refine(trim_o (·≠gq) _ (lesL (rest.take (kk+n)) Q kk cq j) (by rw [les_len,HLT.out];have h1:=HLM.out;have h3:=HLR.out;have h4:=HMM.out;omega) _ HP9.out (fun b hb=>by have h1:=HGQ8.out;have h2:=HE2.out.size;omega)).mono ?_;rintro e w10 ⟨v9,rfl,h9,k9⟩
      have hnx:trimF (lesL (rest.take (kk+n)) Q kk cq j)=nextR rest Q:=by
       have h:=les_ref rest Q (by rw [HLE.out,HN.out];omega) (by rw [HN.out];omega) HTQ.out;rw [HKK.out,HCQ.out,HN.out,HLE.out,show kk+n+1 - 1=kk+n by omega,Nat.add_sub_cancel] at h;rw [HJE.out];exact h
      rw [hnx] at h9;obtain⟨A9,cx9,e9,-,-⟩:=id h9;obtain⟨l9,hl9⟩:∃l,(nextR rest Q).length=l:=⟨_,rfl⟩;rw [hl9] at e9;subst e9;have HL9:=ZZ hl9;have H9:=ZZ h9;have K9:=ZZ k9
      have HLM9:=ZZ (show l9≤m from by
       have h1:=trim_le (lesL (rest.take (kk+n)) Q kk cq j);rw [hnx,les_len,HL9.out,HLT.out] at h1;have h2:=HLM.out
       omega)
      clear h9 k9 hl9 hnx;go_wp2_with fail
      go_roundg ko
      case measure=>omega
      case rel=>
       exact⟨nextR rest Q,quo.set kk cq,A9,l9,cx9,rfl,HL9,ZZ HB2.out.2,ZZ (by rw [←HCQ.out];exact HU2.out),ZZ (by rw [List.length_set];exact HQL.out),HLM9,H9,ZZ (PO8.out.mono (ak HE2.out K9.out)),ZZ (ak E8.out (ak HE2.out K9.out))⟩
     ·have hjn:j<n:=by have:=HJ.out;omega
      have hjq:j<Q.length:=by rw [HN.out];omega
      have hjr:kk+j<rest.length:=by rw [HLE.out];omega
      have hjt:kk+j<(rest.take (kk+n)).length:=by rw [HLT.out];omega
      have q1n:decide ((j:Int)<(n:Int))=true:=decide_eq_true (by omega);have q1n':decide (j<n)=true:=decide_eq_true hjn;have q4n:(j:Int)<(n:Int)+1:=by omega
      have q5n:(0:Int)≤(j:Int):=by omega
      have q6:IntKind.i64.wrap ((kk:Int)+(j:Int))=(kk:Int)+(j:Int):=by
       have h1:=HLM.out;have h3:=HLR.out;have h4:=HMM.out;exact IntWalk.i64_in _ (by omega)
      have q7:(kk:Int)+(j:Int)<(kk:Int)+(n:Int):=by omega
      have q8:(0:Int)≤(kk:Int)+(j:Int):=by omega
      have q9:((kk:Int)+(j:Int)).toNat=kk+j:=by omega
      have HPQ2:=ZZ (H2.out.mono (ak E8.out HE2.out));obtain⟨b3,o3,q3_,e3,hq3,htri3⟩:=HPQ2.out.at_ (show j<n+1 by omega)
      injection e3 with e3
      injection e3 with e3a e3b
      subst e3a e3b;have hq2:Q[j]?=some (co Q j):=by unfold co;rw [List.getElem?_eq_getElem hjq];rfl
      rw [hq2] at hq3;obtain rfl:co Q j=q3_:=Option.some.inj hq3;obtain⟨s5,A5,k5,ca5,B5,l5,cb5,c0,c1,c2,hn5⟩:=htri3;have BQ2:=ZZ (HBQ.out (co Q j) (List.mem_of_getElem? hq2));have BQ3:=ZZ (HBR.out (co rest (kk+j)) (List.mem_of_getElem? (show rest[kk+j]?=some (co rest (kk+j)) by unfold co;rw [List.getElem?_eq_getElem hjr];rfl)));have hct:co (rest.take (kk+n)) (kk+j)=co rest (kk+j):=by unfold co;rw [List.getElem?_take,if_pos (by omega)]
      obtain⟨-,-,-,h4⟩:=id HO2.out;obtain⟨s3,A3,k3,ca3,B3,l3,cb3,d0,d1,d2,hn3,hb3⟩:=h4 (kk+j) _ (les_at (rest.take (kk+n)) Q cq hjt);rw [hct] at hn3;have RCI:=ZZ ((HE2.out.block _ (lt_of_block RC8.out)).trans RC8.out);obtain⟨x0,x1,x2,-⟩:=ai RCI.out;have NC:=ZZ (NC8.out.mono HE2.out);have N5:=ZZ hn5;have N3:=ZZ hn3;have F3:=ZZ hb3;have HGI:=ZZ (show gq<WI.heap.size∧g<WI.heap.size from ⟨by have h1:=HGQ8.out;have h2:=HE2.out.size;omega,by obtain⟨cur,hh,-⟩:=HO2.out;exact lt_of_block hh⟩);have HC12:=ZZ (show ∀W,Ext WI W→W.cell? ⟨g,(kk+j)*3,none⟩=some (.int .i64 s3)∧W.cell? ⟨g,(kk+j)*3+1,none⟩=some (.slice A3 k3 ca3)∧W.cell? ⟨g,(kk+j)*3+2,none⟩=some (.slice B3 l3 cb3)∧W.cell? ⟨gc,0,none⟩=some (.int .i64 s4)∧W.cell? ⟨gc,1,none⟩=some (.slice A4 k4 ca4)∧W.cell? ⟨gc,2,none⟩=some (.slice B4 l4 cb4)∧W.cell? ⟨b2,o2+j*3,none⟩=some (.int .i64 s5)∧W.cell? ⟨b2,o2+j*3+1,none⟩=some (.slice A5 k5 ca5)∧W.cell? ⟨b2,o2+j*3+2,none⟩=some (.slice B5 l5 cb5) from fun W k=>⟨am k d0,am k d1,am k d2,am k x0,am k x1,am k x2,am k c0,am k c1,am k c2⟩);have HZ2:=ZZ hz2;have HJT:=ZZ hjt;have HCT:=ZZ hct;clear hn5 hn3 hb3 hq2 hq3 h4 hz2 hjq hjr hjt hct c0 c1 c2 d0 d1 d2 x0 x1 x2
      go_upto_region 12 with (fail)
      refine wp_region_noPanic ?_;refine region_L (S:=fun W=>W.cell? ⟨g,(kk+j)*3,none⟩=some (.int .i64 s3)∧W.cell? ⟨g,(kk+j)*3+1,none⟩=some (.slice A3 k3 ca3)∧W.cell? ⟨g,(kk+j)*3+2,none⟩=some (.slice B3 l3 cb3)∧W.cell? ⟨gc,0,none⟩=some (.int .i64 s4)∧W.cell? ⟨gc,1,none⟩=some (.slice A4 k4 ca4)∧W.cell? ⟨gc,2,none⟩=some (.slice B4 l4 cb4)∧W.cell? ⟨b2,o2+j*3,none⟩=some (.int .i64 s5)∧W.cell? ⟨b2,o2+j*3+1,none⟩=some (.slice A5 k5 ca5)∧W.cell? ⟨b2,o2+j*3+2,none⟩=some (.slice B5 l5 cb5)) 18 (by kernel_rfl) (HC12.out _ (ac _)) (fun hHeld=>?_);refine take_lb 0 58 ?_;refine take_lb 1 59 ?_;refine take_lb 2 60 ?_;refine take_lb 3 61 ?_;refine take_lb 4 62 ?_;refine take_lb 5 63 ?_;refine take_lb 6 64 ?_;refine take_lb 7 65 ?_;refine take_lb 8 66 ?_;refine take_lb 9 67 ?_;refine take_lb 10 68 ?_;refine take_lb 11 69 ?_;refine take_lb 12 70 ?_;refine take_lb 13 71 ?_;refine take_lb 14 72 ?_;refine call_L (i:=15) 73 rfl rfl (by kernel_rfl) (fun K hK=>?_)
      go_simp
      go_at_call 92
      refine(mul_f (M+M) (by have:=HM.out;omega) _ _ cq (co Q j) _ (NC.out.mono (ac _)) (N5.out.mono (ac _)) BCC.out (BQ2.out.mono (by omega))).mono ?_;rintro e w4 ⟨v4,rfl,h4,kk4,f4⟩;have H6:=ZZ h4;have hx1:=ZZ (show Ext WI w4 from ak (ac _) kk4);have F6:=ZZ (f4.bln (C:=fun b=>b≠gq∧b≠g) (fun b hb=>by have h1:=HGI.out;have h2:=(ac WI).size;exact⟨by omega,by omega⟩));clear h4 kk4 f4
      try go_wp2_with fail
      refine hK.out _ _ (HC12.out _ hx1.out) (fun hHeld=>?_);clear hK K
      try simp only [Act.put,lyA,lyB,lyC]
      refine call_L (i:=16) 74 rfl rfl (by kernel_rfl) (fun K hK=>?_)
      go_simp
      go_at_call 91
      refine(sub_f (M+M+M) (by have:=HM.out;omega) _ _ (co rest (kk+j)) (cq*co Q j) _ (N3.out.mono hx1.out) H6.out (BQ3.out.mono (by omega)) (BCC.out.mul BQ2.out)).mono ?_;rintro e w5 ⟨v5,rfl,h5,kk5,f5⟩;obtain⟨s7,A7,k7,ca7,B7,l7,cb7,rfl,-⟩:=h5.form;have H7:=ZZ h5;have hx2:=ZZ (ak hx1.out kk5);have F7:=ZZ (f5 (fun b=>b≠gq∧b≠g) (fun b hb=>by have h1:=HGI.out;have h2:=hx1.out.size;exact⟨by omega,by omega⟩) F3.out F6.out);clear h5 kk5 f5
      try go_wp2_with fail
      refine hK.out _ _ (HC12.out _ hx2.out) (fun hHeld=>?_);clear hK K
      try simp only [Act.put,lyA,lyB,lyC]
      refine take_lb 17 75 ?_;refine last_L rfl (by kernel_rfl) (by kernel_rfl) (fun K hK=>?_);have hp5:=HO2.out.mono hx2.out;obtain⟨cur5,hh5,-⟩:=id hp5;have zf0:=frozen_row hh5 ((kk+j)*3);have zf1:=frozen_row hh5 ((kk+j)*3+1);have zf2:=frozen_row hh5 ((kk+j)*3+2);obtain⟨z0,z1,z2,-⟩:=HC12.out w5 hx2.out;clear hp5 hh5
      go_simp
      refine hK.out _ _ ?_;clear hK K
      try simp only [Act.put,lyA,lyB,lyC]
      refine NoPanic.normal ?_;have hlen:kk+j<(lesL (rest.take (kk+n)) Q kk cq j).length:=by rw [les_len];exact HJT.out
      have HP7:=ZZ (PlW.set (HO2.out.mono hx2.out) (fun b hb=>hb.2) (i:=kk+j) hlen H7.out F7.out);have E7:=ZZ (show Ext W8 (put3at w5 g ((kk+j)*3) (.int .i64 s7) (.slice A7 k7 ca7) (.slice B7 l7 cb7)) from (((ak HE2.out hx2.out).setCell HG8.out _).setCell HG8.out _).setCell HG8.out _);clear hlen;go_wp2_with fail
      go_roundg (gk - 1)
      case measure=>have:=HZ2.out;omega
      case rel=>
       refine⟨j+1,ZZ (by have:=HJ.out;have:=HZ2.out;omega),by have h1:=HLQ.out;have h2:=HN.out;have h3:=HJ.out;rw [IntWalk.wrap64_in _ ⟨by omega,by omega⟩];rfl,ZZ ?_,E7⟩;have h8:=HP7.out;rw [←HCT.out,les_set (rest.take (kk+n)) Q cq HJT.out] at h8;exact h8
end Go.Proofs.YtoefieefcndlkaaGreatDoor
