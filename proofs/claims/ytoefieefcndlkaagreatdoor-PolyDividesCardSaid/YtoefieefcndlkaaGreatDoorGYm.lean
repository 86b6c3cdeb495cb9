/- The laws' helper Awake returns true. Printed by gen_vd.py. The reference's numbers: where their digits lie; slices of them in memory. Powers of two; the ends of a span in order. Printed by gen_yj.py. The ends of a span in order; roots in a span. Printed by gen_yk.py. Roots in a span; the sign everywhere in a span; the sign at a root. Printed by gen_yl.py. Polynomials along a line of the plane; real roots by their multiplicities. Printed by gen_ym.py. -/
import Derived.Test.YtoefieefcndlkaaGreatDoorGYh
import Derived.Test.YtoefieefcndlkaaGreatDoorGTc
import Derived.Deep.RegionHeld3
import Derived.Deep.DeepCutAuto
import Derived.Test.YtoefieefcndlkaaGreatDoorGRm
import Derived.Test.YtoefieefcndlkaaGreatDoorGQz
import Derived.Test.YtoefieefcndlkaaGreatDoorGYi
set_option linter.unusedVariables false
set_option maxRecDepth 100000
set_option maxHeartbeats 64000000
namespace Go.Proofs.YtoefieefcndlkaaGreatDoor
open Go.RowKit
theorem text_lit (M:Nat) (hM:M≤1099511627776) (vx:Value) (x:Rat) (l:List UInt8) (hl:txt x=l) (w:World) (hx:Nm w vx x) (bx:Bq M x) (htab:Tens w):Calls Tryz.prog 27 #[vx] w fun e w'=>e=.returned (.string ⟨l.toArray⟩)∧Ext w w':=by
 subst hl;exact text_c M hM vx x w hx bx htab
end Go.Proofs.YtoefieefcndlkaaGreatDoor
set_option linter.unusedVariables false
set_option maxRecDepth 100000
set_option maxHeartbeats 64000000
namespace Go.Proofs.YtoefieefcndlkaaGreatDoor
open Go.RowKit
theorem BlC.imp {C D:Nat→Prop} {v:Value} (h:BlC C v) (k:∀b,C b→D b):BlC D v:=fun a n c e h0=>k _ (h a n c e h0)
theorem BlN.imp {C D:Nat→Prop} {v:Value} (h:BlN C v) (k:∀b,C b→D b):BlN D v:=fun s A n c A' l d e=>⟨(h s A n c A' l d e).1.imp k,(h s A n c A' l d e).2.imp k⟩
theorem BlN.both {C D:Nat→Prop} {v:Value} (h:BlN C v) (h':BlN D v):BlN (fun b=>C b∧D b) v:=fun s A n c A' l d e=>
 ⟨fun a m c0 e0 h0=>⟨(h s A n c A' l d e).1 a m c0 e0 h0,(h' s A n c A' l d e).1 a m c0 e0 h0⟩,fun a m c0 e0 h0=>⟨(h s A n c A' l d e).2 a m c0 e0 h0,(h' s A n c A' l d e).2 a m c0 e0 h0⟩⟩
theorem FrN.bln {B:Nat} {v:Value} {C:Nat→Prop} (h:FrN B v) (hC:∀b,B≤b→C b):BlN C v:=fun s A n c A' l d e=>⟨(h s A n c A' l d e).1.blc hC,(h s A n c A' l d e).2.blc hC⟩
theorem Wr.keepB {W W':World} {v:Value} {n:Nat} {C:Nat→Prop} (h:Wr W v n) (hb:BlC C v) (hk:∀b,C b→W'.heap[b]?=W.heap[b]?):Wr W' v n:=by
 obtain⟨A,cc,e,hc,hcl⟩:=h;refine⟨A,cc,e,hc,?_⟩
 rcases hcl with h0|⟨b,o,hA,hce⟩
 ·exact .inl h0
 ·refine .inr ⟨b,o,hA,fun j hj=>?_⟩
  rw [←hce j hj];exact World.cell?_of_block (hk b (hb ⟨b,o,none⟩ _ cc (by rw [e,hA]) (by simp at hj;omega)))
theorem Wr.old {w:World} {v:Value} {n:Nat} (h:Wr w v n):BlC (·<w.heap.size) v:=by
 rintro a k c e h0;obtain⟨A,cc,e1,hc,hcl⟩:=h;rw [e1] at e
 injection e with ea ek ec
 rcases hcl with h1|⟨b,o,hA,hce⟩
 ·rw [←ek] at h0
  simp at h1
  rw [h1] at h0
  cases h0
 ·rw [hA] at ea
  injection ea with ea
  rw [←ea];have h2:=hce 0 (by simp;omega);exact World.block_lt_of_cell? w _ h2
theorem Nr.keepB {W W':World} {v:Value} {q:Rat} {C:Nat→Prop} (h:Nr W v q) (hb:BlN C v) (hk:∀b,C b→W'.heap[b]?=W.heap[b]?):Nr W' v q:=by
 obtain⟨s,vt,vb,e,hs,h1,h2⟩:=h;obtain⟨A,c,e1,-,-⟩:=id h1;obtain⟨A',c',e2,-,-⟩:=id h2;obtain⟨f1,f2⟩:=hb s A _ c A' _ c' (by rw [e,e1,e2]);exact⟨s,vt,vb,e,hs,h1.keepB (by rw [e1];exact f1) hk,h2.keepB (by rw [e2];exact f2) hk⟩
theorem Nr.old {w:World} {v:Value} {q:Rat} (h:Nr w v q):BlN (·<w.heap.size) v:=by
 obtain⟨s,vt,vb,e,hs,h1,h2⟩:=h;intro s1 A1 k1 c1 A2 l2 d2 e';rw [e] at e'
 simp only [Value.agg.injEq,Array.mk.injEq,List.cons.injEq] at e'
 obtain⟨-,rfl,rfl,-⟩:=e';exact⟨h1.old,h2.old⟩
def TriR (w:World) (b j:Nat) (q:Rat):Prop:=∃s A k ca B m cb,w.cell? ⟨b,j,none⟩=some (.int .i64 s)∧w.cell? ⟨b,j+1,none⟩=some (.slice A k ca)∧w.cell? ⟨b,j+2,none⟩=some (.slice B m cb)∧Nr w (.agg #[.int .i64 s,.slice A k ca,.slice B m cb]) q
theorem TriR.mono {w w':World} {b j:Nat} {q:Rat} (h:TriR w b j q) (k:Ext w w'):TriR w' b j q:=by
 obtain⟨s,A,m,ca,B,n,cb,h1,h2,h3,h4⟩:=h;exact⟨s,A,m,ca,B,n,cb,am k h1,am k h2,am k h3,h4.mono k⟩
def PlR (w:World) (v:Value) (l:List Rat):Prop:=∃A cap,v=.slice A l.length cap∧l.length≤cap∧((A=none∧l=[])∨∃b o,A=some ⟨b,o,none⟩∧∀i q,l[i]?=some q→TriR w b (o+i*3) q)
theorem PlR.mono {w w':World} {v:Value} {l:List Rat} (h:PlR w v l) (k:Ext w w'):PlR w' v l:=by
 obtain⟨A,cap,h1,h2,h3⟩:=h;refine⟨A,cap,h1,h2,?_⟩
 rcases h3 with h3|⟨b,o,h4,h5⟩
 ·exact .inl h3
 ·exact .inr ⟨b,o,h4,fun i q hq=>(h5 i q hq).mono k⟩
theorem PlR.nil (w:World):PlR w (.slice none 0 0) []:=⟨none,0,rfl,Nat.le_refl _,.inl ⟨rfl,rfl⟩⟩
theorem PlR.form {w:World} {v:Value} {l:List Rat} (h:PlR w v l):∃A c,v=.slice A l.length c:=by
 obtain⟨A,c,e,-⟩:=h;exact⟨A,c,e⟩
theorem PlR.take {w:World} {A:Option Addr} {n cap:Nat} {l:List Rat} (h:PlR w (.slice A n cap) l) {k:Nat} (hk:k≤l.length):PlR w (.slice A k cap) (l.take k):=by
 obtain⟨A',cap',e,h2,h3⟩:=h
 injection e with e1 e2 e3
 subst e1 e2 e3;have hl:(l.take k).length=k:=by simp [hk]
 refine⟨A,cap,by rw [hl],by rw [hl];omega,?_⟩
 rcases h3 with ⟨h4,h5⟩|⟨b,o,h4,h5⟩
 ·exact .inl ⟨h4,by rw [h5];simp⟩
 ·refine .inr ⟨b,o,h4,fun i q hq=>h5 i q ?_⟩
  rw [List.getElem?_take] at hq
  split at hq
  ·exact hq
  ·cases hq
theorem plr_of_own {w:World} {B:Nat} {v:Value} {l:List Rat} {xs:List Value} {C:Value→Prop} (h:OwnG w B 75 3 C v l.length xs) (hx:∀i q,l[i]?=some q→∃s A k ca C m cb,xs[i*3]?=some (.int .i64 s)∧xs[i*3+1]?=some (.slice A k ca)∧xs[i*3+2]?=some (.slice C m cb)∧Nr w (.agg #[.int .i64 s,.slice A k ca,.slice C m cb]) q):PlR w v l:=by
 obtain⟨hlen,h2⟩:=h
 rcases h2 with ⟨rfl,h0⟩|⟨g,cap,cur,rfl,-,hg,hc,-,-,ht,-⟩
 ·rw [List.length_eq_zero_iff.1 h0];exact PlR.nil w
 ·refine⟨_,cap,rfl,hc,.inr ⟨g,0,rfl,fun i q hq=>?_⟩⟩
  obtain⟨s,A,k,ca,C,m,cb,x0,x1,x2,hn⟩:=hx i q hq
  have key:∀(j:Nat) (u:Value),xs[j]?=some u→w.cell? ⟨g,j,none⟩=some u:=fun j u hu=>by
   rw [cell_of_row w g j _ _ _ hg];rw [←ht,List.getElem?_take] at hu
   split at hu
   ·simpa using hu
   ·cases hu
  rw [Nat.zero_add];exact⟨s,A,k,ca,C,m,cb,key _ _ x0,key _ _ x1,key _ _ x2,hn⟩
end Go.Proofs.YtoefieefcndlkaaGreatDoor
set_option linter.unusedVariables false
set_option maxRecDepth 100000
set_option maxHeartbeats 64000000
namespace Go.Proofs.YtoefieefcndlkaaGreatDoor
open Go Go.RowKit
set_option linter.unusedSimpArgs false
def pw2 (n:Nat):Rat:=(((2 ^ n:Nat):Int):Rat)
theorem pw2_succ (n:Nat):pw2 n+pw2 n=pw2 (n+1):=by
 unfold pw2;rw [Nat.pow_succ,show (((2 ^ n*2:Nat):Int))=((2 ^ n:Nat):Int)+((2 ^ n:Nat):Int) by omega,Rat.intCast_add]
theorem pw2_ne (n:Nat):pw2 n≠0:=by
 unfold pw2;intro h;have h1:(((2 ^ n:Nat):Int))=0:=by exact_mod_cast h
 have h2:=Nat.two_pow_pos n;omega
theorem bq_pw2 (n:Nat):Bq (n+1) (pw2 n):=by
 unfold pw2;refine⟨?_,?_⟩
 ·rw [Rat.num_intCast,Int.natAbs_natCast]
  exact Nat.pow_lt_pow_right (by decide) (Nat.lt_succ_self n)
 ·rw [Rat.den_intCast]
  exact Nat.one_lt_two_pow (Nat.succ_ne_zero n)
def powF (k:Int):Rat:=if k<0 then 1 / pw2 k.natAbs else pw2 k.natAbs
theorem bq_powF (k:Int):Bq (k.natAbs+1) (powF k):=by
 unfold powF
 split
 ·exact bq_inv2 (bq_pw2 _) (pw2_ne _)
 ·exact bq_pw2 _
theorem power_p (k:Int) (hk:k.natAbs≤100000) (w:World):Calls Tryz.prog 60 #[.int .i64 k] w fun e w'=>∃v',e=.returned v'∧Nm w' v' (powF k)∧Ext w w':=by
 obtain⟨n,hn⟩:∃n,k.natAbs=n:=⟨_,rfl⟩;have q1:IntKind.i64.wrap (-k) = -k:=IntWalk.i64_in _ (by omega);have q2:max k (-k)=(n:Int):=by omega
 have HKN:=ZZ (show n≤100000 by omega);have HN:=ZZ hn;have BONE:=ZZ (show Bq 64 (1:Rat) from bq_int 1 (by decide) (by decide));clear hk hn
 go_enter Tryz.func60,Tryz.ntmps60
 go_wp2_with fail;refine(int_q 1 (by decide) (by decide) _).mono ?_
 rintro e w3 ⟨v3,rfl,h3,kk3⟩;obtain⟨s3,A3,k3,ca3,B3,l3,cb3,rfl⟩:=h3.form2;have r1:=(kk3.block _ (lt_of_block (heap_alloc_new w (.cells #[.bool false,.slice none 0 0,.slice none 0 0] 52)))).trans (heap_alloc_new w (.cells #[.bool false,.slice none 0 0,.slice none 0 0] 52));have x4:=ab w3 (.cells #[.bool s3,.slice A3 k3 ca3,.slice B3 l3 cb3] 52);have R1:=ZZ ((x4.block _ (lt_of_block r1)).trans r1);have R2:=ZZ (heap_alloc_new w3 (.cells #[.bool s3,.slice A3 k3 ca3,.slice B3 l3 cb3] 52));have H3:=ZZ ((show Nm w3 (.agg #[.bool s3,.slice A3 k3 ca3,.slice B3 l3 cb3]) 1 from h3).mono x4);have E4:=ZZ (ak (ab w (.cells #[.bool false,.slice none 0 0,.slice none 0 0] 52)) (ak kk3 x4));have HS:=ZZ (show w.heap.size<w3.heap.size from by have h1:=lt_of_block r1;omega);clear h3 kk3 r1 x4
 go_upto_region 2 with (fail)
 generalize w3.alloc (.cells #[.bool s3,.slice A3 k3 ca3,.slice B3 l3 cb3] _)=W4 at *;obtain⟨gr,hgr⟩:∃g,w.heap.size=g:=⟨_,rfl⟩;obtain⟨go,hgo⟩:∃g,w3.heap.size=g:=⟨_,rfl⟩;rw [hgr] at R1;rw [hgo] at R2;have HGD:=ZZ (show w.heap.size≤gr∧w.heap.size≤go∧gr≠go from ⟨by omega,by have:=HS.out;omega,by have:=HS.out;omega⟩);rw [hgo,hgr];clear hgr hgo HS;go_wp2_with fail
 go_loopg [9] n (fun m i wr=>∃j,Hid (j+m=n)∧i=.int .i64 (j:Int)∧Hid (∃(s2:Bool) (A2:Option Addr) (k2 ca2:Nat) (B2:Option Addr) (l2 cb2:Nat),wr.heap[go]?=some (.cells #[.bool s2,.slice A2 k2 ca2,.slice B2 l2 cb2] 52 (0,0))∧Nm wr (.agg #[.bool s2,.slice A2 k2 ca2,.slice B2 l2 cb2]) (pw2 j))∧Hid (wr.heap[gr]?=some (.cells #[.bool false,.slice none 0 0,.slice none 0 0] 52 (0,0)))∧Hid (Ext w wr))
 case atStart=>exact⟨0,ZZ (Nat.zero_add _),rfl,ZZ ⟨_,_,_,_,_,_,_,R2.out,H3.out⟩,R1,E4⟩
 case round=>
  obtain⟨j,HJ,rfl,HMO,HRG,HE⟩:=hrel;rename World=>WR;obtain⟨s2,A2,k2,ca2,B2,l2,cb2,hm2,hn2⟩:=HMO.out;have HM2:=ZZ hm2;have NM0:=ZZ hn2;obtain⟨p0,p1,p2,pf0,pf1,pf2⟩:=ai hm2;clear hm2 hn2 HMO
  rcases Nat.eq_zero_or_pos gk with hz|hz
  ·subst hz
   obtain rfl:j=n:=HJ.out;obtain⟨n,hjn⟩:∃n,n=j:=⟨j,rfl⟩;subst hjn;have q3:decide ((n:Int)<(n:Int))=false:=decide_eq_false (Int.lt_irrefl _)
   by_cases hk:k<0
   ·have q4:decide (k<0)=true:=decide_eq_true hk
    have HPF:=ZZ (show powF k=1 / pw2 n by unfold powF;rw [if_pos hk,HN.out]);clear hk
    go_upto_region 7 with (fail)
    have HRO:=ZZ (show ∀W,Ext WR W→W.heap[go]?=some (.cells #[.bool s2,.slice A2 k2 ca2,.slice B2 l2 cb2] 52 (0,0)) from fun W k=>(k.block _ (lt_of_block HM2.out)).trans HM2.out)
    have HC7:=ZZ (show ∀W,Ext WR W→W.cell? ⟨go,0,none⟩=some (.bool s2)∧W.cell? ⟨go,1,none⟩=some (.slice A2 k2 ca2)∧W.cell? ⟨go,2,none⟩=some (.slice B2 l2 cb2) from fun W k=>by
     obtain⟨y0,y1,y2,-⟩:=ai (HRO.out W k);exact⟨y0,y1,y2⟩)
    have HRR:=ZZ (show ∀W,Ext WR W→W.heap[gr]?=some (.cells #[.bool false,.slice none 0 0,.slice none 0 0] 52 (0,0)) from fun W k=>(k.block _ (lt_of_block HRG.out)).trans HRG.out);clear p0 p1 p2 pf0 pf1 pf2;have hun:undef=.tuple #[]:=rfl;refine wp_region_noPanic ?_;refine region_L (S:=fun W=>W.cell? ⟨go,0,none⟩=some (.bool s2)∧W.cell? ⟨go,1,none⟩=some (.slice A2 k2 ca2)∧W.cell? ⟨go,2,none⟩=some (.slice B2 l2 cb2)) 3 (by kernel_rfl) (HC7.out _ (ac _)) (fun hHeld=>?_);refine take_b 1 18 ?_;refine call_L (i:=0) 17 rfl rfl (by kernel_rfl) (fun K hK=>?_)
    go_simp
    go_at_call 23
    refine(int_q 1 (by decide) (by decide) _).mono ?_;rintro e w5 ⟨v5,rfl,h5,kk5⟩;obtain⟨s5,A5,k5,ca5,B5,l5,cb5,rfl⟩:=h5.form2;have H5:=ZZ (show Nm w5 (.agg #[.bool s5,.slice A5 k5 ca5,.slice B5 l5 cb5]) 1 from h5);have hx1:=ZZ (show Ext WR w5 from ak (ac _) kk5);clear h5 kk5
    try go_wp2_with fail
    refine hK.out _ _ (HC7.out _ hx1.out) (fun hHeld=>?_);clear hK K
    try simp only [Act.put,lyA,lyB,lyC]
    refine call_L (i:=2) 19 rfl rfl (by kernel_rfl) (fun K hK=>?_)
    go_simp
    go_at_call 86
    refine(over_q (n+64) (by have:=HKN.out;omega) _ _ 1 (pw2 n) _ H5.out (NM0.out.mono hx1.out) (BONE.out.mono (by omega)) ((bq_pw2 n).mono (by omega)) (pw2_ne n)).mono ?_;rintro e w6 ⟨v6,rfl,h6,kk6⟩;obtain⟨s6,A6,k6,ca6,B6,l6,cb6,rfl⟩:=h6.form2;have H6:=ZZ h6;have hx2:=ZZ (ak hx1.out kk6);clear h6 kk6
    try go_wp2_with fail
    refine hK.out _ _ (HC7.out _ hx2.out) (fun hHeld=>?_);clear hK K
    try simp only [Act.put,lyA,lyB,lyC]
    refine last_L rfl (by kernel_rfl) (by kernel_rfl) (fun K hK=>?_);obtain⟨zz0,zz1,zz2,zf0,zf1,zf2⟩:=ai (HRO.out w6 hx2.out)
    go_simp
    refine hK.out _ _ ?_;clear hK K
    try simp only [Act.put,lyA,lyB,lyC]
    refine NoPanic.normal ?_;have r8:=put3b_row (HRO.out w6 hx2.out) (.bool s6) (.slice A6 k6 ca6) (.slice B6 l6 cb6);have n8:=nm_put3b H6.out (HRO.out w6 hx2.out) (.bool s6) (.slice A6 k6 ca6) (.slice B6 l6 cb6);have rr8:(put3at w6 go 0 (.bool s6) (.slice A6 k6 ca6) (.slice B6 l6 cb6)).heap[gr]?=some (.cells #[.bool false,.slice none 0 0,.slice none 0 0] 52 (0,0)):=(put3b_other _ _ _ HGD.out.2.2).trans (HRR.out w6 hx2.out);have e8:Ext w (put3at w6 go 0 (.bool s6) (.slice A6 k6 ca6) (.slice B6 l6 cb6)):=(((ak HE.out hx2.out).setCell HGD.out.2.1 _).setCell HGD.out.2.1 _).setCell HGD.out.2.1 _;clear zz0 zz1 zz2 zf0 zf1 zf2;generalize hW8:(World.setCell (World.setCell (World.setCell w6 ⟨go,0,none⟩ (.bool s6)) ⟨go,1,none⟩ (.slice A6 k6 ca6)) ⟨go,2,none⟩ (.slice B6 l6 cb6))=W8;have hW8':put3at w6 go 0 (.bool s6) (.slice A6 k6 ca6) (.slice B6 l6 cb6)=W8:=hW8;rw [hW8'] at r8 n8 rr8 e8;obtain⟨t0,t1,t2,tf0,tf1,tf2⟩:=ai r8;obtain⟨u0,u1,u2,uf0,uf1,uf2⟩:=ai rr8;have RR8:=ZZ rr8;have N8:=ZZ n8;have E8:=ZZ e8;clear r8 n8 rr8 e8 hW8 hW8'
    go_upto_region 8 with (fail)
    have hr9:=put3b_row RR8.out (.bool s6) (.slice A6 k6 ca6) (.slice B6 l6 cb6);have hn9:=nm_put3b N8.out RR8.out (.bool s6) (.slice A6 k6 ca6) (.slice B6 l6 cb6);have he9:Ext w (put3at W8 gr 0 (.bool s6) (.slice A6 k6 ca6) (.slice B6 l6 cb6)):=((E8.out.setCell HGD.out.1 _).setCell HGD.out.1 _).setCell HGD.out.1 _;have HR9:=ZZ hr9;have HN9:=ZZ hn9;have HE9:=ZZ he9;clear hr9 hn9 he9;go_wp2_with fail;have hr9:=HR9.out;obtain⟨y0,y1,y2,-⟩:=ai hr9;clear hr9;refine bodyPost_ret (v:=.agg #[.bool s6,.slice A6 k6 ca6,.slice B6 l6 cb6]) (by simp [results,Tryz.f60];go_simp) rfl ?_;exact⟨_,rfl,by rw [HPF.out];exact HN9.out,HE9.out⟩
   ·have q4:decide (k<0)=false:=decide_eq_false hk
    have HPF:=ZZ (show powF k=pw2 n by unfold powF;rw [if_neg hk,HN.out]);obtain⟨u0,u1,u2,uf0,uf1,uf2⟩:=ai HRG.out;clear hk
    go_upto_region 8 with (fail)
    have HR9:=ZZ (put3b_row HRG.out (.bool s2) (.slice A2 k2 ca2) (.slice B2 l2 cb2));have HN9:=ZZ (nm_put3b NM0.out HRG.out (.bool s2) (.slice A2 k2 ca2) (.slice B2 l2 cb2));have HE9:=ZZ (show Ext w (put3at WR gr 0 (.bool s2) (.slice A2 k2 ca2) (.slice B2 l2 cb2)) from ((HE.out.setCell HGD.out.1 _).setCell HGD.out.1 _).setCell HGD.out.1 _);go_wp2_with fail;have hr9:=HR9.out;obtain⟨y0,y1,y2,-⟩:=ai hr9;clear hr9;refine bodyPost_ret (v:=.agg #[.bool s2,.slice A2 k2 ca2,.slice B2 l2 cb2]) (by simp [results,Tryz.f60];go_simp) rfl ?_;exact⟨_,rfl,by rw [HPF.out];exact HN9.out,HE9.out⟩
  ·have hjn:j<n:=by have:=HJ.out;omega
   have q3:decide ((j:Int)<(n:Int))=true:=decide_eq_true (by omega);have q3':decide (j<n)=true:=decide_eq_true hjn;have HZ:=ZZ hz;have HJN:=ZZ hjn;clear hz hjn;go_wp2_with fail;refine(add_q (n+1) (by have:=HKN.out;omega) _ _ (pw2 j) (pw2 j) _ NM0.out NM0.out ((bq_pw2 j).mono (by have:=HJN.out;omega)) ((bq_pw2 j).mono (by have:=HJN.out;omega))).mono ?_;rintro e w6 ⟨v6,rfl,h6,kk6⟩;obtain⟨s6,A6,k6,ca6,B6,l6,cb6,rfl⟩:=h6.form2;rw [pw2_succ] at h6;have H6:=ZZ h6;have K6:=ZZ kk6;have HR6:=ZZ ((kk6.block _ (lt_of_block HM2.out)).trans HM2.out);obtain⟨t0,t1,t2,tf0,tf1,tf2⟩:=ai HR6.out;clear h6 kk6 p0 p1 p2 pf0 pf1 pf2;go_wp2_with fail;have HM9:=ZZ (show ∃(s2:Bool) (A2:Option Addr) (k2 ca2:Nat) (B2:Option Addr) (l2 cb2:Nat),(put3at w6 go 0 (.bool s6) (.slice A6 k6 ca6) (.slice B6 l6 cb6)).heap[go]?=some (.cells #[.bool s2,.slice A2 k2 ca2,.slice B2 l2 cb2] 52 (0,0))∧Nm (put3at w6 go 0 (.bool s6) (.slice A6 k6 ca6) (.slice B6 l6 cb6)) (.agg #[.bool s2,.slice A2 k2 ca2,.slice B2 l2 cb2]) (pw2 (j+1)) from ⟨_,_,_,_,_,_,_,put3b_row HR6.out _ _ _,nm_put3b H6.out HR6.out _ _ _⟩);have HR9:=ZZ (show (put3at w6 go 0 (.bool s6) (.slice A6 k6 ca6) (.slice B6 l6 cb6)).heap[gr]?=some (.cells #[.bool false,.slice none 0 0,.slice none 0 0] 52 (0,0)) from (put3b_other _ _ _ HGD.out.2.2).trans ((K6.out.block _ (lt_of_block HRG.out)).trans HRG.out))
   have HE9:=ZZ (show Ext w (put3at w6 go 0 (.bool s6) (.slice A6 k6 ca6) (.slice B6 l6 cb6)) from (((ak HE.out K6.out).setCell HGD.out.2.1 _).setCell HGD.out.2.1 _).setCell HGD.out.2.1 _)
   go_roundg (gk - 1)
   case measure=>have:=HZ.out;omega
   case rel=>exact⟨j+1,ZZ (by have:=HJ.out;have:=HZ.out;omega),by have h1:=HKN.out;have h2:=HJN.out;rw [IntWalk.wrap64_in _ ⟨by omega,by omega⟩];rfl,HM9,HR9,HE9⟩
end Go.Proofs.YtoefieefcndlkaaGreatDoor
set_option linter.unusedVariables false
set_option maxRecDepth 100000
set_option maxHeartbeats 64000000
namespace Go.Proofs.YtoefieefcndlkaaGreatDoor
open Go Go.RowKit
set_option linter.unusedSimpArgs false
section
variable {P:Program} {md:Region.Mode} {ops:Array Oper} {Q:Exit→Act→World→Prop} {S:World→Prop}
theorem two_p {fuel:Nat} {listed:Array Bool} {a:Act} {w:World} {i j:Nat} {oi oj:Oper} (hi:ops[i]?=some oi) (hj:ops[j]?=some oj) (hr:Region.ready md ops listed=[i,j]) (h1:∀K':Act→World→Prop,Shut (∀a w,S w→(S w→wpAnyH P md ops Q S fuel (listed.setIfInBounds i true) a w)→K' a w)→if Region.wanted oi (yielded ops a.tmps)=true then Oper.wp P oi a w K' Q else K' (a.put oi.dst undef) w) (h2:∀K':Act→World→Prop,Shut (∀a w,S w→(S w→wpAnyH P md ops Q S fuel (listed.setIfInBounds j true) a w)→K' a w)→if Region.wanted oj (yielded ops a.tmps)=true then Oper.wp P oj a w K' Q else K' (a.put oj.dst undef) w):wpAnyH P md ops Q S (fuel+1) listed a w:=wpAnyH_ready hr (by simp) (AllReadyH.cons hi h1 (AllReadyH.cons hj h2 AllReadyH.nil))
end
end Go.Proofs.YtoefieefcndlkaaGreatDoor
set_option linter.unusedVariables false
set_option maxRecDepth 100000
set_option maxHeartbeats 64000000
namespace Go.Proofs.YtoefieefcndlkaaGreatDoor
open Go Go.RowKit
set_option linter.unusedSimpArgs false
end Go.Proofs.YtoefieefcndlkaaGreatDoor
set_option linter.unusedVariables false
set_option maxRecDepth 100000
set_option maxHeartbeats 64000000
namespace Go.Proofs.YtoefieefcndlkaaGreatDoor
open Go Go.RowKit
set_option linter.unusedSimpArgs false
def alongU (x y:List Rat):List Rat→List Rat × List Rat
 | []=>([],[])
 | c :: p=>(addF (subF (mulF (alongU x y p).1 x) (mulF (alongU x y p).2 y)) [c],addF (mulF (alongU x y p).1 y) (mulF (alongU x y p).2 x))
def alongB (M:Nat) (x y:List Rat):List Rat→Bool
 | []=>true
 | c :: p=>alongB M x y p && smB M [c] && smB M (alongU x y p).1 && smB M (alongU x y p).2 && smB M (mulF (alongU x y p).1 x) && smB M (mulF (alongU x y p).2 y) && smB M (subF (mulF (alongU x y p).1 x) (mulF (alongU x y p).2 y)) && smB M (mulF (alongU x y p).1 y) && smB M (mulF (alongU x y p).2 x) &&
   decide ((alongU x y p).1.length≤1000) && decide ((alongU x y p).2.length≤1000)
def alongOk (M:Nat) (x y p:List Rat):Bool:=alongB M x y p && smB M x && smB M y && decide (x.length≤1000) && decide (y.length≤1000)
theorem alongB_drop {M:Nat} {x y:List Rat} {p:List Rat} (h:alongB M x y p=true) (j:Nat):alongB M x y (p.drop j)=true:=by
 induction j generalizing p with
 | zero=>exact h
 | succ j ih=>
  cases p with
  | nil=>rfl
  | cons c p=>
   refine ih ?_;unfold alongB at h
   simp only [Bool.and_eq_true] at h
   exact h.1.1.1.1.1.1.1.1.1.1
theorem mulF_len (p q:List Rat):(mulF p q).length≤p.length+q.length:=by
 rw [←mulF_acc]
 have:=trim_le (accL p q p.length 0)
 rwa [acc_len] at this
theorem pl_one {w:World} {A:Option Addr} {n c i:Nat} {l:List Rat} {q:Rat} (h:Pl w (.slice A n c) l) (hi:l[i]?=some q):∃b o,A=some ⟨b,o,none⟩∧Pl w (.slice (some ⟨b,o+i*3,none⟩) 1 (c - i)) [q]:=by
 obtain⟨A',cap,e,hc,hA⟩:=h
 injection e with e1 e2 e3
 subst e1 e2 e3
 rcases hA with ⟨-,h⟩|⟨b,o,e4,ht⟩
 ·rw [h] at hi;cases hi
 ·have hlt:=(List.getElem?_eq_some_iff.1 hi).1
  refine⟨b,o,e4,_,c - i,rfl,by simp;omega,.inr ⟨b,o+i*3,rfl,fun j r hr=>?_⟩⟩
  match j,hr with
  | 0,hr=>
   obtain rfl:q=r:=Option.some.inj hr
   have:=ht i q hi
   simpa using this
theorem k_of1 {M n:Nat} (hM:M≤268435456) (hn:n≤1000):n*(M+M+1)+1≤1099511627776:=by
 have h1:n*(M+M+1)≤1000*(M+M+1):=Nat.mul_le_mul_right _ hn;omega
theorem along_p (M:Nat) (hM0:0<M) (hM:M≤268435456) (vp vx vy:Value) (p X Y:List Rat) (hlp:p.length≤100000) (w:World) (hp:Pl w vp p) (hx:Pl w vx X) (hy:Pl w vy Y) (hok:alongOk M X Y p=true):Calls Tryz.prog 54 #[vp,vx,vy] w fun e w'=>∃v1 v2,e=.returned (.tuple #[v1,v2])∧Pl w' v1 (alongU X Y p).1∧Pl w' v2 (alongU X Y p).2∧Ext w w':=by
 unfold alongOk at hok
 simp only [Bool.and_eq_true] at hok
 obtain⟨⟨⟨⟨hb,sx⟩,sy⟩,lx⟩,ly⟩:=hok;obtain⟨A,n,cp,rfl,hn⟩:=hp.form;obtain⟨Ax,nx,cx,rfl,-⟩:=hx.form;obtain⟨Ay,ny,cy,rfl,-⟩:=hy.form;have HP:=ZZ hp;have Hx0:=ZZ hx;have Hy0:=ZZ hy;have HLP:=ZZ hlp;have HN:=ZZ hn;have HM0:=ZZ hM0;have HM:=ZZ hM;have HB:=ZZ hb;have Sx:=ZZ (sm_of sx);have Sy:=ZZ (sm_of sy);have HLx:=ZZ (of_decide_eq_true lx);have HLy:=ZZ (of_decide_eq_true ly);have HNL:=ZZ (show n≤100000 by omega);have q0:IntKind.i64.wrap ((n:Int) - 1)=(n:Int) - 1:=IntWalk.i64_in _ (by omega);clear hp hx hy hlp hn hM0 hM hb sx sy lx ly
 go_enter Tryz.func54,Tryz.ntmps54
 go_wp2_with fail
 go_loopg [8,6,7] n (fun k i vr vi wr=>Hid (k≤n)∧i=.int .i64 ((k:Int) - 1)∧Hid (Pl wr vr (alongU X Y (p.drop k)).1)∧Hid (Pl wr vi (alongU X Y (p.drop k)).2)∧Hid (Ext w wr))
 case atStart=>exact⟨ZZ (Nat.le_refl _),rfl,ZZ (by rw [List.drop_eq_nil_of_le (Nat.le_of_eq HN.out)];exact Pl.nil _),ZZ (by rw [List.drop_eq_nil_of_le (Nat.le_of_eq HN.out)];exact Pl.nil _),ZZ (ae _)⟩
 case round=>
  obtain⟨HK,rfl,HR,HI,HE⟩:=hrel;rename World=>WR
  rcases Nat.eq_zero_or_pos gk with hz|hz
  ·subst hz
   have q1:decide ((0:Int)≤((0:Nat):Int) - 1)=false:=rfl;have q2:((0:Nat):Int) - 1 = -1:=rfl;rw [q2];go_wp2_with fail;refine bodyPost_ret (v:=.tuple #[u6,u7]) (by simp [results,Tryz.f54]) rfl ?_;exact⟨_,_,rfl,HR.out,HI.out,HE.out⟩
  ·obtain⟨j,rfl⟩:∃j,gk=j+1:=⟨gk - 1,by omega⟩
   have q2:((j+1:Nat):Int) - 1=(j:Int):=by omega
   rw [q2];have hjp:j<p.length:=by have h1:=HK.out;have h2:=HN.out;omega
   obtain⟨cq,hcq⟩:∃q,p[j]?=some q:=⟨p[j]'hjp,List.getElem?_eq_getElem _⟩
   have hd:p.drop j=cq :: p.drop (j+1):=by
    obtain⟨h1,h2⟩:=List.getElem?_eq_some_iff.1 hcq;rw [List.drop_eq_getElem_cons h1,h2]
   obtain⟨b,o,rfl,hone⟩:=pl_one HP.out hcq;have HONE:=ZZ (hone.mono HE.out);obtain⟨R,hR⟩:∃R,(alongU X Y (p.drop (j+1))).1=R:=⟨_,rfl⟩;obtain⟨I,hI⟩:∃I,(alongU X Y (p.drop (j+1))).2=I:=⟨_,rfl⟩;have hal:=alongB_drop HB.out j;rw [hd] at hal;unfold alongB at hal;rw [hR,hI] at hal
   simp only [Bool.and_eq_true] at hal
   obtain⟨⟨⟨⟨⟨⟨⟨⟨⟨⟨-,o1⟩,o2⟩,o3⟩,o4⟩,o5⟩,o6⟩,o7⟩,o8⟩,o9⟩,o10⟩:=hal;have Sc:=ZZ (sm_of o1);have Sr:=ZZ (sm_of o2);have Si:=ZZ (sm_of o3);have S1:=ZZ (sm_of o4);have S2:=ZZ (sm_of o5);have S3:=ZZ (sm_of o6);have S4:=ZZ (sm_of o7);have S5:=ZZ (sm_of o8);have HLr:=ZZ (of_decide_eq_true o9);have HLi:=ZZ (of_decide_eq_true o10);have HRes:=ZZ (show alongU X Y (p.drop j)=(addF (subF (mulF R X) (mulF I Y)) [cq],addF (mulF R Y) (mulF I X)) from by rw [hd];unfold alongU;rw [hR,hI]);rw [hR] at HR;rw [hI] at HI;have Hr:=HR;have Hi:=HI;have Hx:=ZZ (Hx0.out.mono HE.out);have Hy:=ZZ (Hy0.out.mono HE.out);have q4:decide ((0:Int)≤(j:Int))=true:=decide_eq_true (by omega);have q5:IntKind.i64.wrap ((j:Int)+1)=(j:Int)+1:=by have:=HNL.out;have:=HK.out;exact IntWalk.i64_in _ (by omega)
   have q6:IntKind.i64.wrap (j:Int)=(j:Int):=by have:=HNL.out;have:=HK.out;exact IntWalk.i64_in _ (by omega)
   have q7:IntKind.i64.wrap ((j:Int) - 1)=(j:Int) - 1:=by have:=HNL.out;have:=HK.out;exact IntWalk.i64_in _ (by omega)
   have q8:(0:Int)≤(j:Int):=by omega
   have q9:(j:Int)≤(j:Int)+1:=by omega
   have q10:(j:Int)+1≤(cp:Int):=by
    obtain⟨A',cap',e',hc',-⟩:=HP.out
    injection e' with e1 e2 e3
    have h1:=HN.out;have h2:=HK.out;omega
   have q11:IntKind.i64.wrap ((j:Int)+1 - (j:Int))=1:=by rw [show (j:Int)+1 - (j:Int)=1 by omega];rfl
   have q12:¬(cp=j):=by omega
   clear hjp hcq hd hone hR hI o1 o2 o3 o4 o5 o6 o7 o8 o9 o10 hz
   go_upto_region 4 with (fail)
   have hun:undef=.tuple #[]:=rfl;refine wp_region_noPanic ?_;refine wp_region_held_drew (S:=fun W=>True) (by kernel_rfl) (trivial) (fun hHeld=>?_);refine take_a 0 16 ?_;refine take_a 1 17 ?_;refine take_a 3 19 ?_;refine take_a 4 20 ?_;refine take_a 7 23 ?_;refine take_a 8 24 ?_;refine take_a 9 25 ?_;refine take_a 10 26 ?_;refine take_a 11 27 ?_;refine take_a 13 29 ?_;refine take_a 14 30 ?_;refine take_a 16 32 ?_;refine take_a 17 33 ?_;refine call_p (i:=2) (some 18) rfl rfl (by kernel_rfl) (fun K hK=>?_)
   go_simp
   go_at_call 15
   refine(mul_p M HM0.out _ _ R X (by have:=HLr.out;omega) (by have:=HLx.out;omega) (k_of1 HM.out HLr.out) _ (Hr.out.mono (ac _)) (Hx.out.mono (ac _)) Sr.out Sx.out).mono ?_;rintro e x1 ⟨u1,rfl,h1,kk1⟩;have G1:=ZZ h1.pl;have hx1:=ZZ (show Ext WR x1 from ak (ac _) kk1);clear h1 kk1
   try go_wp2_with fail
   refine hK.out _ _ (trivial) (fun hHeld=>?_);clear hK K
   try simp only [Act.put,lyA,lyB,lyC]
   refine call_p (i:=5) (some 21) rfl rfl (by kernel_rfl) (fun K hK=>?_)
   go_simp
   go_at_call 15
   refine(mul_p M HM0.out _ _ I Y (by have:=HLi.out;omega) (by have:=HLy.out;omega) (k_of1 HM.out HLi.out) _ (Hi.out.mono hx1.out) (Hy.out.mono hx1.out) Si.out Sy.out).mono ?_;rintro e x2 ⟨u2,rfl,h2,kk2⟩;have G2:=ZZ h2.pl;have hx2:=ZZ (ak hx1.out kk2);have K12:=ZZ kk2;clear h2 kk2
   try go_wp2_with fail
   refine hK.out _ _ (trivial) (fun hHeld=>?_);clear hK K
   try simp only [Act.put,lyA,lyB,lyC]
   refine call_p (i:=6) (some 22) rfl rfl (by kernel_rfl) (fun K hK=>?_)
   go_simp
   go_at_call 41
   refine(sub_p M (by have:=HM.out;omega) _ _ (mulF R X) (mulF I Y) (by have:=mulF_len R X;have:=HLr.out;have:=HLx.out;omega) (by have:=mulF_len I Y;have:=HLi.out;have:=HLy.out;omega) _ (G1.out.mono K12.out) G2.out S1.out S2.out).mono ?_;rintro e x3 ⟨u3,rfl,h3,kk3⟩;have G3:=ZZ h3.pl;have hx3:=ZZ (ak hx2.out kk3);clear h3 kk3
   try go_wp2_with fail
   refine hK.out _ _ (trivial) (fun hHeld=>?_);clear hK K
   try simp only [Act.put,lyA,lyB,lyC]
   refine call_p (i:=12) (some 28) rfl rfl (by kernel_rfl) (fun K hK=>?_)
   go_simp
   go_at_call 96
   refine(add_p M (by have:=HM.out;omega) _ _ (subF (mulF R X) (mulF I Y)) [cq] (by have h1:=sub_len (mulF R X) (mulF I Y) 2000 (by have:=mulF_len R X;have:=HLr.out;have:=HLx.out;omega) (by have:=mulF_len I Y;have:=HLi.out;have:=HLy.out;omega);omega) (by simp) _ G3.out (HONE.out.mono hx3.out) S3.out Sc.out).mono ?_;rintro e x4 ⟨u4,rfl,h4,kk4⟩;have G4:=ZZ h4.pl;have hx4:=ZZ (ak hx3.out kk4);clear h4 kk4
   try go_wp2_with fail
   refine hK.out _ _ (trivial) (fun hHeld=>?_);clear hK K
   try simp only [Act.put,lyA,lyB,lyC]
   refine call_p (i:=15) (some 31) rfl rfl (by kernel_rfl) (fun K hK=>?_)
   go_simp
   go_at_call 15
   refine(mul_p M HM0.out _ _ R Y (by have:=HLr.out;omega) (by have:=HLy.out;omega) (k_of1 HM.out HLr.out) _ (Hr.out.mono hx4.out) (Hy.out.mono hx4.out) Sr.out Sy.out).mono ?_;rintro e x5 ⟨u5,rfl,h5,kk5⟩;have G5:=ZZ h5.pl;have G4b:=ZZ (G4.out.mono kk5);have hx5:=ZZ (ak hx4.out kk5);clear h5 kk5
   try go_wp2_with fail
   refine hK.out _ _ (trivial) (fun hHeld=>?_);clear hK K
   try simp only [Act.put,lyA,lyB,lyC]
   refine call_p (i:=18) (some 34) rfl rfl (by kernel_rfl) (fun K hK=>?_)
   go_simp
   go_at_call 15
   refine(mul_p M HM0.out _ _ I X (by have:=HLi.out;omega) (by have:=HLx.out;omega) (k_of1 HM.out HLi.out) _ (Hi.out.mono hx5.out) (Hx.out.mono hx5.out) Si.out Sx.out).mono ?_;rintro e x6 ⟨u6,rfl,h6,kk6⟩;have G6:=ZZ h6.pl;have G4c:=ZZ (G4b.out.mono kk6);have G5b:=ZZ (G5.out.mono kk6);have hx6:=ZZ (ak hx5.out kk6);clear h6 kk6
   try go_wp2_with fail
   refine hK.out _ _ (trivial) (fun hHeld=>?_);clear hK K
   try simp only [Act.put,lyA,lyB,lyC]
   refine call_p (i:=19) (some 35) rfl rfl (by kernel_rfl) (fun K hK=>?_)
   go_simp
   go_at_call 96
   refine(add_p M (by have:=HM.out;omega) _ _ (mulF R Y) (mulF I X) (by have:=mulF_len R Y;have:=HLr.out;have:=HLy.out;omega) (by have:=mulF_len I X;have:=HLi.out;have:=HLx.out;omega) _ G5b.out G6.out S4.out S5.out).mono ?_;rintro e x7 ⟨u7,rfl,h7,kk7⟩;have G7:=ZZ h7.pl;have G4d:=ZZ (G4c.out.mono kk7);have hx7:=ZZ (ak hx6.out kk7);clear h7 kk7
   try go_wp2_with fail
   refine hK.out _ _ (trivial) (fun hHeld=>?_);clear hK K
   try simp only [Act.put,lyA,lyB,lyC]
   refine take_a 20 6 ?_;refine take_a 21 7 ?_;refine wpAnyH_done (by kernel_rfl) ?_ _;refine NoPanic.normal ?_;go_wp2_with fail
   go_roundg j
   case measure=>omega
   case rel=>exact⟨ZZ (by have:=HK.out;omega),rfl,ZZ (by rw [HRes.out];exact G4d.out),ZZ (by rw [HRes.out];exact G7.out),ZZ (ak HE.out hx7.out)⟩
theorem sgn_ends (b:Bool) (w:World):SgnV (w.alloc (.cells #[.bool b] 4)) (.func (.func 110) #[] #[.pointer (some ⟨w.heap.size,0,none⟩)]) (endsF b) (fun l=>l.length≤100000∧l≠[]):=
 ⟨110,#[.pointer (some ⟨w.heap.size,0,none⟩)],rfl,enters_of Tryz.func110 (by kernel_rfl) rfl,fun W k v l hp hl=>
  ends1_p b w.heap.size v l hl.1 hl.2 W ((k.block _ (lt_of_block (heap_alloc_new w _))).trans (heap_alloc_new w _)) hp⟩
def turnF (c:List (List Rat)):Int:=flipsF c (endsF true) - flipsF c (endsF false)
def neB (c:List (List Rat)):Bool:=c.all fun l=>!l.isEmpty && decide (l.length≤100000)
theorem neB_of {c:List (List Rat)} (h:neB c=true):∀l ∈ c,l.length≤100000∧l≠[]:=fun l hl=>by
 have h1:=List.all_eq_true.1 h l hl;rw [Bool.and_eq_true] at h1;exact⟨of_decide_eq_true h1.2,ne_of_emp h1.1⟩
def timesU:Nat→List Rat→Int
 | 0,_=>0
 | n+1,p=>if 1<(trimF p).length then turnF (ownF p)+timesU n (commonF p (derivF p)) else 0
def timesB (M:Nat):Nat→List Rat→Bool
 | 0,p=>decide ((trimF p).length≤1)
 | n+1,p=>if 1<(trimF p).length then ownOk M p && neB (ownF p) && smB M p && comOk M p (derivF p) && timesB M n (commonF p (derivF p)) else true
def timesF (p:List Rat):Int:=timesU (p.length+1) p
def timesOk (M:Nat) (p:List Rat):Bool:=timesB M (p.length+1) p
theorem times_p (M:Nat) (hM0:0<M) (hM:M≤268435456) (vp:Value) (p:List Rat) (hlp:p.length≤1000) (w:World) (hp:Pl w vp p) (hok:timesOk M p=true) (z:Int) (hz:timesF p=z):Calls Tryz.prog 56 #[vp] w fun e w'=>e=.returned (.int .i64 z)∧Ext w w':=by
 have HP:=ZZ hp;have HLP:=ZZ hlp;have HM0:=ZZ hM0;have HM:=ZZ hM;have HB0:=ZZ (show timesB M (p.length+1) p=true from hok);have HZ:=ZZ (show timesU (p.length+1) p=z from hz);clear hp hlp hM0 hM hok hz
 go_enter Tryz.func56,Tryz.ntmps56
 go_wp2_with fail
 go_loopg [0,3] (p.length+1) (fun k vb vn wr=>∃(b:List Rat) (a:Int),vn=.int .i64 a∧Hid (k≤p.length+1)∧Hid (b.length≤1000)∧Hid (-3000*((p.length:Int)+1 - k)≤a∧a≤3000*((p.length:Int)+1 - k))∧Hid (timesB M k b=true)∧Hid (a+timesU k b=z)∧Hid (Pl wr vb b)∧Hid (Ext w wr))
 case atStart=>exact⟨p,0,rfl,ZZ (Nat.le_refl _),HLP,ZZ (by omega),HB0,ZZ (by rw [Int.zero_add];exact HZ.out),HP,ZZ (ae _)⟩
 case round=>
  obtain⟨b,a,rfl,HK,HBL,HA,HB,HU,HPB,HE⟩:=hrel;rename World=>WR;go_wp2_with fail;refine(deg_q _ b (by have:=HBL.out;omega) _ HPB.out).mono ?_;rintro e wd ⟨rfl,kd⟩;have KD:=ZZ kd;clear kd;obtain⟨m,hm⟩:∃m,(trimF b).length=m:=⟨_,rfl⟩;rw [hm]
  rcases Nat.lt_or_ge 1 m with h1|h1
  ·obtain⟨ko,rfl⟩:∃k,gk=k+1:=⟨gk - 1,by
    rcases Nat.eq_zero_or_pos gk with h|h
    ·subst h
     have h2:decide ((trimF b).length≤1)=true:=HB.out;rw [hm] at h2
     have:=of_decide_eq_true h2
     omega
    ·omega⟩
   have hb:=HB.out;unfold timesB at hb;rw [if_pos (by rw [hm];exact h1)] at hb;have hu:=HU.out;unfold timesU at hu;rw [if_pos (by rw [hm];exact h1)] at hu
   simp only [Bool.and_eq_true] at hb
   obtain⟨⟨⟨⟨o1,o2⟩,o3⟩,o4⟩,o5⟩:=hb;obtain⟨O,hO⟩:∃O,ownF b=O:=⟨_,rfl⟩;have hol:=own_len b;rw [hO] at o2 hu hol;have P1:=ZZ o1;have P2:=ZZ (neB_of o2);have P3:=ZZ (sm_of o3);have P4:=ZZ o4;have P5:=ZZ o5;have HO:=ZZ hO;have HOL:=ZZ (show O.length≤3000 by have:=HBL.out;omega);obtain⟨z1,hz1⟩:∃z,flipsF O (endsF true)=z:=⟨_,rfl⟩;obtain⟨z2,hz2⟩:∃z,flipsF O (endsF false)=z:=⟨_,rfl⟩;have hb1:=flips_bound 0 (O.map (endsF true));have hb2:=flips_bound 0 (O.map (endsF false));rw [show flipsU 0 (O.map (endsF true))=z1 from hz1,List.length_map] at hb1;rw [show flipsU 0 (O.map (endsF false))=z2 from hz2,List.length_map] at hb2;have HZB:=ZZ (show (-3000≤z1 - z2∧z1 - z2≤3000) from by have:=HOL.out;omega)
   have HU2:=ZZ (show a+(z1 - z2)+timesU ko (commonF b (derivF b))=z from by
    rw [←hu];unfold turnF;rw [hz1,hz2];omega)
   have HZ1:=ZZ hz1;have HZ2:=ZZ hz2;have q1:decide ((0:Int)<(m:Int) - 1)=true:=decide_eq_true (by omega);have q1':decide ((1:Int)<(m:Int))=true:=decide_eq_true (by omega);have q3:IntKind.i64.wrap (z1 - z2)=z1 - z2:=by have:=HZB.out;exact IntWalk.i64_in _ (by omega)
   have q4:IntKind.i64.wrap (a+(z1 - z2))=a+(z1 - z2):=by have:=HZB.out;have:=HA.out;have:=HK.out;have:=HLP.out;exact IntWalk.i64_in _ (by omega)
   clear o1 o2 o3 o4 o5 hu hO hol hz1 hz2 hb1 hb2 hm h1;have HPB1:=ZZ (HPB.out.mono KD.out);go_wp2_with fail;refine(own_p M HM0.out HM.out _ b (by have:=HBL.out;omega) _ HPB1.out P1.out).mono ?_;rintro e x1 ⟨t1,rfl,h1,kk1⟩;rw [HO.out] at h1;obtain⟨A1,cap1,e1,-⟩:=id h1;obtain⟨n1,hn1⟩:∃n,O.length=n:=⟨_,rfl⟩;rw [hn1] at e1;subst e1;have H1:=ZZ h1;have X1:=ZZ (ak KD.out kk1);clear h1 kk1 hn1;go_wp2_with fail;refine(endsV_c true _).mono ?_;rintro e x2 ⟨rfl,hx2⟩;have SG:=ZZ (hx2 ▸ sgn_ends true x1);have X2:=ZZ (show Ext x1 x2 from by rw [hx2];exact ab _ _);clear hx2;go_wp2_with fail;refine(flips_p _ _ O (endsF true) _ (by have:=HOL.out;omega) P2.out _ (H1.out.mono X2.out) SG.out z1 HZ1.out).mono ?_;rintro e x3 ⟨rfl,kk3⟩;have X3:=ZZ (ak X2.out kk3);clear kk3 SG;go_wp2_with fail;refine(endsV_c false _).mono ?_;rintro e x4 ⟨rfl,hx4⟩;have SG:=ZZ (hx4 ▸ sgn_ends false x3);have X4:=ZZ (show Ext x1 x4 from by rw [hx4];exact ak X3.out (ab _ _));clear hx4;go_wp2_with fail;refine(flips_p _ _ O (endsF false) _ (by have:=HOL.out;omega) P2.out _ (H1.out.mono X4.out) SG.out z2 HZ2.out).mono ?_;rintro e x5 ⟨rfl,kk5⟩;have X5:=ZZ (ak X4.out kk5);clear kk5 SG;have HPB2:=ZZ (HPB.out.mono (ak X1.out X5.out));go_wp2_with fail;refine(deriv_p M HM0.out (by have:=HM.out;omega) _ b (by have:=HBL.out;omega) _ HPB2.out P3.out).mono ?_;rintro e x6 ⟨t6,rfl,h6,kk6⟩;have H6:=ZZ h6.pl;have HPB3:=ZZ (HPB2.out.mono kk6);have X6:=ZZ kk6;clear h6 kk6;go_wp2_with fail
   refine(common_p M HM0.out (Nat.le_trans HM.out (by decide)) _ _ b (derivF b) (by have:=HBL.out;omega) (by have h1:=deriv_len b;have:=HBL.out;omega) _ HPB3.out H6.out P4.out).mono ?_;rintro e x7 ⟨t7,rfl,h7,kk7⟩;have H7:=ZZ h7;have X7:=ZZ (ak (ak X1.out X5.out) (ak X6.out kk7));clear h7 kk7;go_wp2_with fail
   go_roundg ko
   case measure=>omega
   case rel=>exact⟨commonF b (derivF b),a+(z1 - z2),rfl,ZZ (by have:=HK.out;omega),ZZ (common_len _ _ _ HBL.out (Nat.le_trans (deriv_len b) HBL.out)),ZZ (by have h1:=HZB.out;have h2:=HA.out;have h3:=HK.out;omega),P5,HU2,H7,ZZ (ak HE.out X7.out)⟩
  ·have HZA:=ZZ (show a=z from by
    have h:=HU.out
    cases gk with
    | zero=>
     have h2:a+0=z:=h;omega
    | succ k=>unfold timesU at h;rw [if_neg (by rw [hm];omega)] at h;omega)
   have q1:decide ((0:Int)<(m:Int) - 1)=false:=decide_eq_false (by omega);have q1':decide ((1:Int)<(m:Int))=false:=decide_eq_false (by omega);clear hm h1;go_wp2_with fail;go_ret;exact⟨by rw [←HZA.out];rfl,ak HE.out KD.out⟩
end Go.Proofs.YtoefieefcndlkaaGreatDoor
