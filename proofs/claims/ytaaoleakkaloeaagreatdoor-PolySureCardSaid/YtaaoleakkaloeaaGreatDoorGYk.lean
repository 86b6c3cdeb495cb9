/- Powers of two; the ends of a span in order. Printed by gen_yj.py. The ends of a span in order; roots in a span. Printed by gen_yk.py. -/
import Derived.Test.YtaaoleakkaloeaaGreatDoorGYi
import Derived.Test.YtaaoleakkaloeaaGreatDoorGYd
set_option linter.unusedVariables false
set_option maxRecDepth 100000
set_option maxHeartbeats 64000000
namespace Go.Proofs.YtaaoleakkaloeaaGreatDoor
open Go Go.RowKit
set_option linter.unusedSimpArgs false
def pw2 (n:Nat):Rat:=(((2 ^ n:Nat):Int):Rat)
theorem pw2_succ (n:Nat):pw2 n+pw2 n=pw2 (n+1):=by
 unfold pw2;rw [Nat.pow_succ,show (((2 ^ n*2:Nat):Int))=((2 ^ n:Nat):Int)+((2 ^ n:Nat):Int) by omega,Rat.intCast_add]
theorem pw2_ne (n:Nat):pw2 n≠0:=by
 unfold pw2;intro h;have h1:(((2 ^ n:Nat):Int))=0:=by exact_mod_cast h
 have h2:=Nat.two_pow_pos n;omega
theorem bq_pw2 (n:Nat):Bq (n+1) (pw2 n):=by
 unfold pw2;refine⟨?_,?_⟩
 ·rw [Rat.num_intCast,Int.natAbs_natCast]
  exact Nat.pow_lt_pow_right (by decide) (Nat.lt_succ_self n)
 ·rw [Rat.den_intCast]
  exact Nat.one_lt_two_pow (Nat.succ_ne_zero n)
def powF (k:Int):Rat:=if k<0 then 1 / pw2 k.natAbs else pw2 k.natAbs
theorem bq_powF (k:Int):Bq (k.natAbs+1) (powF k):=by
 unfold powF
 split
 ·exact bq_inv2 (bq_pw2 _) (pw2_ne _)
 ·exact bq_pw2 _
theorem power_p (k:Int) (hk:k.natAbs≤100000) (w:World):Calls Tryz.prog 40 #[.int .i64 k] w fun e w'=>∃v',e=.returned v'∧Nm w' v' (powF k)∧Ext w w':=by
 obtain⟨n,hn⟩:∃n,k.natAbs=n:=⟨_,rfl⟩;have q1:IntKind.i64.wrap (-k) = -k:=IntWalk.i64_in _ (by omega);have q2:max k (-k)=(n:Int):=by omega
 have HKN:=ZZ (show n≤100000 by omega);have HN:=ZZ hn;have BONE:=ZZ (show Bq 64 (1:Rat) from bq_int 1 (by decide) (by decide));clear hk hn
 go_enter Tryz.func40,Tryz.ntmps40
 go_wp2_with fail;refine(int_q 1 (by decide) (by decide) _).mono ?_
 rintro e w3 ⟨v3,rfl,h3,kk3⟩;obtain⟨s3,A3,k3,ca3,B3,l3,cb3,rfl⟩:=h3.form2;have r1:=(kk3.block _ (lt_of_block (heap_alloc_new w (.cells #[.bool false,.slice none 0 0,.slice none 0 0] 36)))).trans (heap_alloc_new w (.cells #[.bool false,.slice none 0 0,.slice none 0 0] 36));have x4:=ac w3 (.cells #[.bool s3,.slice A3 k3 ca3,.slice B3 l3 cb3] 36);have R1:=ZZ ((x4.block _ (lt_of_block r1)).trans r1);have R2:=ZZ (heap_alloc_new w3 (.cells #[.bool s3,.slice A3 k3 ca3,.slice B3 l3 cb3] 36));have H3:=ZZ ((show Nm w3 (.agg #[.bool s3,.slice A3 k3 ca3,.slice B3 l3 cb3]) 1 from h3).mono x4);have E4:=ZZ (al (ac w (.cells #[.bool false,.slice none 0 0,.slice none 0 0] 36)) (al kk3 x4));have HS:=ZZ (show w.heap.size<w3.heap.size from by have h1:=lt_of_block r1;omega);clear h3 kk3 r1 x4
 go_upto_region 2 with (fail)
 generalize w3.alloc (.cells #[.bool s3,.slice A3 k3 ca3,.slice B3 l3 cb3] _)=W4 at *;obtain⟨gr,hgr⟩:∃g,w.heap.size=g:=⟨_,rfl⟩;obtain⟨go,hgo⟩:∃g,w3.heap.size=g:=⟨_,rfl⟩;rw [hgr] at R1;rw [hgo] at R2;have HGD:=ZZ (show w.heap.size≤gr∧w.heap.size≤go∧gr≠go from ⟨by omega,by have:=HS.out;omega,by have:=HS.out;omega⟩);rw [hgo,hgr];clear hgr hgo HS;go_wp2_with fail
 go_loopg [9] n (fun m i wr=>∃j,Hid (j+m=n)∧i=.int .i64 (j:Int)∧Hid (∃(s2:Bool) (A2:Option Addr) (k2 ca2:Nat) (B2:Option Addr) (l2 cb2:Nat),wr.heap[go]?=some (.cells #[.bool s2,.slice A2 k2 ca2,.slice B2 l2 cb2] 36 (0,0))∧Nm wr (.agg #[.bool s2,.slice A2 k2 ca2,.slice B2 l2 cb2]) (pw2 j))∧Hid (wr.heap[gr]?=some (.cells #[.bool false,.slice none 0 0,.slice none 0 0] 36 (0,0)))∧Hid (Ext w wr))
 case atStart=>exact⟨0,ZZ (Nat.zero_add _),rfl,ZZ ⟨_,_,_,_,_,_,_,R2.out,H3.out⟩,R1,E4⟩
 case round=>
  obtain⟨j,HJ,rfl,HMO,HRG,HE⟩:=hrel;rename World=>WR;obtain⟨s2,A2,k2,ca2,B2,l2,cb2,hm2,hn2⟩:=HMO.out;have HM2:=ZZ hm2;have NM0:=ZZ hn2;obtain⟨p0,p1,p2,pf0,pf1,pf2⟩:=aj hm2;clear hm2 hn2 HMO
  rcases Nat.eq_zero_or_pos gk with hz|hz
  ·subst hz
   obtain rfl:j=n:=HJ.out;obtain⟨n,hjn⟩:∃n,n=j:=⟨j,rfl⟩;subst hjn;have q3:decide ((n:Int)<(n:Int))=false:=decide_eq_false (Int.lt_irrefl _)
   by_cases hk:k<0
   ·have q4:decide (k<0)=true:=decide_eq_true hk
    have HPF:=ZZ (show powF k=1 / pw2 n by unfold powF;rw [if_pos hk,HN.out]);clear hk
    go_upto_region 7 with (fail)
    have HRO:=ZZ (show ∀W,Ext WR W→W.heap[go]?=some (.cells #[.bool s2,.slice A2 k2 ca2,.slice B2 l2 cb2] 36 (0,0)) from fun W k=>(k.block _ (lt_of_block HM2.out)).trans HM2.out)
    have HC7:=ZZ (show ∀W,Ext WR W→W.cell? ⟨go,0,none⟩=some (.bool s2)∧W.cell? ⟨go,1,none⟩=some (.slice A2 k2 ca2)∧W.cell? ⟨go,2,none⟩=some (.slice B2 l2 cb2) from fun W k=>by
     obtain⟨y0,y1,y2,-⟩:=aj (HRO.out W k);exact⟨y0,y1,y2⟩)
    have HRR:=ZZ (show ∀W,Ext WR W→W.heap[gr]?=some (.cells #[.bool false,.slice none 0 0,.slice none 0 0] 36 (0,0)) from fun W k=>(k.block _ (lt_of_block HRG.out)).trans HRG.out);clear p0 p1 p2 pf0 pf1 pf2;have hun:undef=.tuple #[]:=rfl;refine wp_region_noPanic ?_;refine region_L (S:=fun W=>W.cell? ⟨go,0,none⟩=some (.bool s2)∧W.cell? ⟨go,1,none⟩=some (.slice A2 k2 ca2)∧W.cell? ⟨go,2,none⟩=some (.slice B2 l2 cb2)) 3 (by kernel_rfl) (HC7.out _ (ae _)) (fun hHeld=>?_);refine take_b 1 18 ?_;refine call_L (i:=0) 17 rfl rfl (by kernel_rfl) (fun K hK=>?_)
    go_simp
    go_at_call 25
    refine(int_q 1 (by decide) (by decide) _).mono ?_;rintro e w5 ⟨v5,rfl,h5,kk5⟩;obtain⟨s5,A5,k5,ca5,B5,l5,cb5,rfl⟩:=h5.form2;have H5:=ZZ (show Nm w5 (.agg #[.bool s5,.slice A5 k5 ca5,.slice B5 l5 cb5]) 1 from h5);have hx1:=ZZ (show Ext WR w5 from al (ae _) kk5);clear h5 kk5
    try go_wp2_with fail
    refine hK.out _ _ (HC7.out _ hx1.out) (fun hHeld=>?_);clear hK K
    try simp only [Act.put,lyA,lyB,lyC]
    refine call_L (i:=2) 19 rfl rfl (by kernel_rfl) (fun K hK=>?_)
    go_simp
    go_at_call 84
    refine(over_q (n+64) (by have:=HKN.out;omega) _ _ 1 (pw2 n) _ H5.out (NM0.out.mono hx1.out) (BONE.out.mono (by omega)) ((bq_pw2 n).mono (by omega)) (pw2_ne n)).mono ?_;rintro e w6 ⟨v6,rfl,h6,kk6⟩;obtain⟨s6,A6,k6,ca6,B6,l6,cb6,rfl⟩:=h6.form2;have H6:=ZZ h6;have hx2:=ZZ (al hx1.out kk6);clear h6 kk6
    try go_wp2_with fail
    refine hK.out _ _ (HC7.out _ hx2.out) (fun hHeld=>?_);clear hK K
    try simp only [Act.put,lyA,lyB,lyC]
    refine last_L rfl (by kernel_rfl) (by kernel_rfl) (fun K hK=>?_);obtain⟨zz0,zz1,zz2,zf0,zf1,zf2⟩:=aj (HRO.out w6 hx2.out)
    go_simp
    refine hK.out _ _ ?_;clear hK K
    try simp only [Act.put,lyA,lyB,lyC]
    refine NoPanic.normal ?_;have r8:=put3b_row (HRO.out w6 hx2.out) (.bool s6) (.slice A6 k6 ca6) (.slice B6 l6 cb6);have n8:=nm_put3b H6.out (HRO.out w6 hx2.out) (.bool s6) (.slice A6 k6 ca6) (.slice B6 l6 cb6);have rr8:(put3at w6 go 0 (.bool s6) (.slice A6 k6 ca6) (.slice B6 l6 cb6)).heap[gr]?=some (.cells #[.bool false,.slice none 0 0,.slice none 0 0] 36 (0,0)):=(put3b_other _ _ _ HGD.out.2.2).trans (HRR.out w6 hx2.out);have e8:Ext w (put3at w6 go 0 (.bool s6) (.slice A6 k6 ca6) (.slice B6 l6 cb6)):=(((al HE.out hx2.out).setCell HGD.out.2.1 _).setCell HGD.out.2.1 _).setCell HGD.out.2.1 _;clear zz0 zz1 zz2 zf0 zf1 zf2;generalize hW8:(World.setCell (World.setCell (World.setCell w6 ⟨go,0,none⟩ (.bool s6)) ⟨go,1,none⟩ (.slice A6 k6 ca6)) ⟨go,2,none⟩ (.slice B6 l6 cb6))=W8;have hW8':put3at w6 go 0 (.bool s6) (.slice A6 k6 ca6) (.slice B6 l6 cb6)=W8:=hW8;rw [hW8'] at r8 n8 rr8 e8;obtain⟨t0,t1,t2,tf0,tf1,tf2⟩:=aj r8;obtain⟨u0,u1,u2,uf0,uf1,uf2⟩:=aj rr8;have RR8:=ZZ rr8;have N8:=ZZ n8;have E8:=ZZ e8;clear r8 n8 rr8 e8 hW8 hW8'
    go_upto_region 8 with (fail)
    have hr9:=put3b_row RR8.out (.bool s6) (.slice A6 k6 ca6) (.slice B6 l6 cb6);have hn9:=nm_put3b N8.out RR8.out (.bool s6) (.slice A6 k6 ca6) (.slice B6 l6 cb6);have he9:Ext w (put3at W8 gr 0 (.bool s6) (.slice A6 k6 ca6) (.slice B6 l6 cb6)):=((E8.out.setCell HGD.out.1 _).setCell HGD.out.1 _).setCell HGD.out.1 _;have HR9:=ZZ hr9;have HN9:=ZZ hn9;have HE9:=ZZ he9;clear hr9 hn9 he9;go_wp2_with fail;have hr9:=HR9.out;obtain⟨y0,y1,y2,-⟩:=aj hr9;clear hr9;refine bodyPost_ret (v:=.agg #[.bool s6,.slice A6 k6 ca6,.slice B6 l6 cb6]) (by simp [results,Tryz.f40];go_simp) rfl ?_;exact⟨_,rfl,by rw [HPF.out];exact HN9.out,HE9.out⟩
   ·have q4:decide (k<0)=false:=decide_eq_false hk
    have HPF:=ZZ (show powF k=pw2 n by unfold powF;rw [if_neg hk,HN.out]);obtain⟨u0,u1,u2,uf0,uf1,uf2⟩:=aj HRG.out;clear hk
    go_upto_region 8 with (fail)
    have HR9:=ZZ (put3b_row HRG.out (.bool s2) (.slice A2 k2 ca2) (.slice B2 l2 cb2));have HN9:=ZZ (nm_put3b NM0.out HRG.out (.bool s2) (.slice A2 k2 ca2) (.slice B2 l2 cb2));have HE9:=ZZ (show Ext w (put3at WR gr 0 (.bool s2) (.slice A2 k2 ca2) (.slice B2 l2 cb2)) from ((HE.out.setCell HGD.out.1 _).setCell HGD.out.1 _).setCell HGD.out.1 _);go_wp2_with fail;have hr9:=HR9.out;obtain⟨y0,y1,y2,-⟩:=aj hr9;clear hr9;refine bodyPost_ret (v:=.agg #[.bool s2,.slice A2 k2 ca2,.slice B2 l2 cb2]) (by simp [results,Tryz.f40];go_simp) rfl ?_;exact⟨_,rfl,by rw [HPF.out];exact HN9.out,HE9.out⟩
  ·have hjn:j<n:=by have:=HJ.out;omega
   have q3:decide ((j:Int)<(n:Int))=true:=decide_eq_true (by omega);have q3':decide (j<n)=true:=decide_eq_true hjn;have HZ:=ZZ hz;have HJN:=ZZ hjn;clear hz hjn;go_wp2_with fail;refine(add_q (n+1) (by have:=HKN.out;omega) _ _ (pw2 j) (pw2 j) _ NM0.out NM0.out ((bq_pw2 j).mono (by have:=HJN.out;omega)) ((bq_pw2 j).mono (by have:=HJN.out;omega))).mono ?_;rintro e w6 ⟨v6,rfl,h6,kk6⟩;obtain⟨s6,A6,k6,ca6,B6,l6,cb6,rfl⟩:=h6.form2;rw [pw2_succ] at h6;have H6:=ZZ h6;have K6:=ZZ kk6;have HR6:=ZZ ((kk6.block _ (lt_of_block HM2.out)).trans HM2.out);obtain⟨t0,t1,t2,tf0,tf1,tf2⟩:=aj HR6.out;clear h6 kk6 p0 p1 p2 pf0 pf1 pf2;go_wp2_with fail;have HM9:=ZZ (show ∃(s2:Bool) (A2:Option Addr) (k2 ca2:Nat) (B2:Option Addr) (l2 cb2:Nat),(put3at w6 go 0 (.bool s6) (.slice A6 k6 ca6) (.slice B6 l6 cb6)).heap[go]?=some (.cells #[.bool s2,.slice A2 k2 ca2,.slice B2 l2 cb2] 36 (0,0))∧Nm (put3at w6 go 0 (.bool s6) (.slice A6 k6 ca6) (.slice B6 l6 cb6)) (.agg #[.bool s2,.slice A2 k2 ca2,.slice B2 l2 cb2]) (pw2 (j+1)) from ⟨_,_,_,_,_,_,_,put3b_row HR6.out _ _ _,nm_put3b H6.out HR6.out _ _ _⟩);have HR9:=ZZ (show (put3at w6 go 0 (.bool s6) (.slice A6 k6 ca6) (.slice B6 l6 cb6)).heap[gr]?=some (.cells #[.bool false,.slice none 0 0,.slice none 0 0] 36 (0,0)) from (put3b_other _ _ _ HGD.out.2.2).trans ((K6.out.block _ (lt_of_block HRG.out)).trans HRG.out))
   have HE9:=ZZ (show Ext w (put3at w6 go 0 (.bool s6) (.slice A6 k6 ca6) (.slice B6 l6 cb6)) from (((al HE.out K6.out).setCell HGD.out.2.1 _).setCell HGD.out.2.1 _).setCell HGD.out.2.1 _)
   go_roundg (gk - 1)
   case measure=>have:=HZ.out;omega
   case rel=>exact⟨j+1,ZZ (by have:=HJ.out;have:=HZ.out;omega),by have h1:=HKN.out;have h2:=HJN.out;rw [IntWalk.wrap64_in _ ⟨by omega,by omega⟩];rfl,HM9,HR9,HE9⟩
end Go.Proofs.YtaaoleakkaloeaaGreatDoor
set_option linter.unusedVariables false
set_option maxRecDepth 100000
set_option maxHeartbeats 64000000
namespace Go.Proofs.YtaaoleakkaloeaaGreatDoor
open Go Go.RowKit
set_option linter.unusedSimpArgs false
section
variable {P:Program} {md:Region.Mode} {ops:Array Oper} {Q:Exit→Act→World→Prop} {S:World→Prop}
theorem two_p {fuel:Nat} {listed:Array Bool} {a:Act} {w:World} {i j:Nat} {oi oj:Oper} (hi:ops[i]?=some oi) (hj:ops[j]?=some oj) (hr:Region.ready md ops listed=[i,j]) (h1:∀K':Act→World→Prop,Shut (∀a w,S w→(S w→wpAnyH P md ops Q S fuel (listed.setIfInBounds i true) a w)→K' a w)→if Region.wanted oi (yielded ops a.tmps)=true then Oper.wp P oi a w K' Q else K' (a.put oi.dst undef) w) (h2:∀K':Act→World→Prop,Shut (∀a w,S w→(S w→wpAnyH P md ops Q S fuel (listed.setIfInBounds j true) a w)→K' a w)→if Region.wanted oj (yielded ops a.tmps)=true then Oper.wp P oj a w K' Q else K' (a.put oj.dst undef) w):wpAnyH P md ops Q S (fuel+1) listed a w:=wpAnyH_ready hr (by simp) (AllReadyH.cons hi h1 (AllReadyH.cons hj h2 AllReadyH.nil))
end
theorem sorted_p (M:Nat) (hM:M≤1099511627776) (v:Value) (x y:Rat) (w:World) (h:Sp w v x y) (bx:Bq M x) (by_:Bq M y):Calls Tryz.prog 54 #[v] w fun e w'=>∃v1 v2,e=.returned (.tuple #[v1,v2])∧Nm w' v1 (aq x y)∧Nm w' v2 (ar x y)∧Ext w w':=by
 obtain⟨s1,A1,k1,ca1,B1,l1,cb1,s2,A2,k2,ca2,B2,l2,cb2,rfl,hx,hy⟩:=h.form;have HM:=ZZ hM;have BX:=ZZ bx;have BY:=ZZ by_;have x1:=ac w (.cells #[.bool s1,.slice A1 k1 ca1,.slice B1 l1 cb1,.bool s2,.slice A2 k2 ca2,.slice B2 l2 cb2] 49);have x2:=ac (w.alloc (.cells #[.bool s1,.slice A1 k1 ca1,.slice B1 l1 cb1,.bool s2,.slice A2 k2 ca2,.slice B2 l2 cb2] 49)) (.cells #[.bool false,.slice none 0 0,.slice none 0 0] 36);have x3:=ac ((w.alloc (.cells #[.bool s1,.slice A1 k1 ca1,.slice B1 l1 cb1,.bool s2,.slice A2 k2 ca2,.slice B2 l2 cb2] 49)).alloc (.cells #[.bool false,.slice none 0 0,.slice none 0 0] 36)) (.cells #[.bool false,.slice none 0 0,.slice none 0 0] 36);have r1:=((al x2 x3).block _ (lt_of_block (heap_alloc_new w (.cells #[.bool s1,.slice A1 k1 ca1,.slice B1 l1 cb1,.bool s2,.slice A2 k2 ca2,.slice B2 l2 cb2] 49)))).trans (heap_alloc_new w (.cells #[.bool s1,.slice A1 k1 ca1,.slice B1 l1 cb1,.bool s2,.slice A2 k2 ca2,.slice B2 l2 cb2] 49));have r2:=(x3.block _ (lt_of_block (heap_alloc_new (w.alloc (.cells #[.bool s1,.slice A1 k1 ca1,.slice B1 l1 cb1,.bool s2,.slice A2 k2 ca2,.slice B2 l2 cb2] 49)) (.cells #[.bool false,.slice none 0 0,.slice none 0 0] 36)))).trans (heap_alloc_new (w.alloc (.cells #[.bool s1,.slice A1 k1 ca1,.slice B1 l1 cb1,.bool s2,.slice A2 k2 ca2,.slice B2 l2 cb2] 49)) (.cells #[.bool false,.slice none 0 0,.slice none 0 0] 36))
 have r3:=heap_alloc_new ((w.alloc (.cells #[.bool s1,.slice A1 k1 ca1,.slice B1 l1 cb1,.bool s2,.slice A2 k2 ca2,.slice B2 l2 cb2] 49)).alloc (.cells #[.bool false,.slice none 0 0,.slice none 0 0] 36)) (.cells #[.bool false,.slice none 0 0,.slice none 0 0] 36);rw [World.size_alloc,World.size_alloc] at r3;rw [World.size_alloc] at r2;have EW:=ZZ (al x1 (al x2 x3));have N1:=ZZ (hx.mono EW.out);have N2:=ZZ (hy.mono EW.out);have R1:=ZZ r1;have R2:=ZZ r2;have R3:=ZZ r3;clear h hx hy hM bx by_ x1 x2 x3 r1 r2 r3
 go_enter Tryz.func54,Tryz.ntmps54
 go_upto_region 1 with (fail)
 generalize ((w.alloc (.cells #[.bool s1,.slice A1 k1 ca1,.slice B1 l1 cb1,.bool s2,.slice A2 k2 ca2,.slice B2 l2 cb2] _)).alloc (.cells #[.bool false,.slice none 0 0,.slice none 0 0] _)).alloc (.cells #[.bool false,.slice none 0 0,.slice none 0 0] _)=W3 at *;obtain⟨gx,hgx⟩:∃g,w.heap.size=g:=⟨_,rfl⟩;obtain⟨g2,hg2⟩:∃g,w.heap.size+1=g:=⟨_,rfl⟩;obtain⟨g3,hg3⟩:∃g,w.heap.size+1+1=g:=⟨_,rfl⟩;have HGD:=ZZ (show g2≠gx∧g3≠gx∧g3≠g2∧w.heap.size≤g2∧w.heap.size≤g3 from ⟨by omega,by omega,by omega,by omega,by omega⟩);rw [hgx] at R1;rw [hg2] at R2;rw [hg3] at R3;rw [hg3,hg2,hgx];clear hgx hg2 hg3;have HRX:=ZZ (show ∀W,Ext W3 W→W.heap[gx]?=some (.cells #[.bool s1,.slice A1 k1 ca1,.slice B1 l1 cb1,.bool s2,.slice A2 k2 ca2,.slice B2 l2 cb2] 49 (0,0)) from fun W k=>(k.block _ (lt_of_block R1.out)).trans R1.out);have Hg2:=ZZ (show ∀W,Ext W3 W→W.heap[g2]?=some (.cells #[.bool false,.slice none 0 0,.slice none 0 0] 36 (0,0)) from fun W k=>(k.block _ (lt_of_block R2.out)).trans R2.out);have Hg3:=ZZ (show ∀W,Ext W3 W→W.heap[g3]?=some (.cells #[.bool false,.slice none 0 0,.slice none 0 0] 36 (0,0)) from fun W k=>(k.block _ (lt_of_block R3.out)).trans R3.out)
 have HC:=ZZ (show ∀W,Ext W3 W→W.cell? ⟨gx,0,none⟩=some (.bool s1)∧W.cell? ⟨gx,1,none⟩=some (.slice A1 k1 ca1)∧W.cell? ⟨gx,2,none⟩=some (.slice B1 l1 cb1)∧W.cell? ⟨gx,3,none⟩=some (.bool s2)∧W.cell? ⟨gx,4,none⟩=some (.slice A2 k2 ca2)∧W.cell? ⟨gx,5,none⟩=some (.slice B2 l2 cb2) from fun W k=>by
  obtain⟨y0,y1,y2,y3,y4,y5,-⟩:=ai (HRX.out W k);exact⟨y0,y1,y2,y3,y4,y5⟩)
 clear R1 R2 R3;have hun:undef=.tuple #[]:=rfl;refine wp_region_noPanic ?_;refine wp_region_held_drew (S:=fun W=>W.cell? ⟨gx,0,none⟩=some (.bool s1)∧W.cell? ⟨gx,1,none⟩=some (.slice A1 k1 ca1)∧W.cell? ⟨gx,2,none⟩=some (.slice B1 l1 cb1)∧W.cell? ⟨gx,3,none⟩=some (.bool s2)∧W.cell? ⟨gx,4,none⟩=some (.slice A2 k2 ca2)∧W.cell? ⟨gx,5,none⟩=some (.slice B2 l2 cb2)) (by kernel_rfl) (HC.out _ (ae _)) (fun hHeld=>?_);refine take_a 0 4 ?_;refine take_a 1 5 ?_;refine take_a 2 6 ?_;refine take_a 3 7 ?_;refine take_a 5 9 ?_;refine take_a 6 10 ?_;refine take_a 7 11 ?_;refine take_a 8 12 ?_;refine call_p (i:=4) (some 8) rfl rfl (by kernel_rfl) (fun K hK=>?_)
 go_simp
 go_at_call 19
 refine(min_q M (by have:=HM.out;omega) _ _ x y _ (N1.out.mono (ae _)) (N2.out.mono (ae _)) BX.out BY.out).mono ?_;rintro e w5 ⟨v5,rfl,h5,kk5⟩;obtain⟨s5,A5,k5,ca5,B5,l5,cb5,rfl⟩:=h5.form2;have H5:=ZZ h5;have hx1:=ZZ (show Ext W3 w5 from al (ae _) kk5);clear h5 kk5
 try go_wp2_with fail
 refine hK.out _ _ (HC.out _ hx1.out) (fun hHeld=>?_);clear hK K
 try simp only [Act.put,lyA,lyB,lyC]
 refine call_p (i:=9) (some 13) rfl rfl (by kernel_rfl) (fun K hK=>?_)
 go_simp
 go_at_call 20
 refine(max_q M (by have:=HM.out;omega) _ _ x y _ (N1.out.mono hx1.out) (N2.out.mono hx1.out) BX.out BY.out).mono ?_;rintro e w6 ⟨v6,rfl,h6,kk6⟩;obtain⟨s6,A6,k6,ca6,B6,l6,cb6,rfl⟩:=h6.form2;have H6:=ZZ h6;have H5b:=ZZ (H5.out.mono kk6);have hx2:=ZZ (al hx1.out kk6);clear h6 kk6
 try go_wp2_with fail
 refine hK.out _ _ (HC.out _ hx2.out) (fun hHeld=>?_);clear hK K
 try simp only [Act.put,lyA,lyB,lyC]
 refine call_p (i:=10) none rfl rfl (by kernel_rfl) (fun K hK=>?st1)
 case st1=>
  have hr1:=(Hg2.out w6 hx2.out);obtain⟨zz0,zz1,zz2,zf0,zf1,zf2⟩:=aj hr1;clear hr1
  go_simp
  have ra:=put3b_other (W:=w6) (g:=g2) (k:=gx) (.bool s5) (.slice A5 k5 ca5) (.slice B5 l5 cb5) (fun e=>HGD.out.1 e.symm);have rb:=put3b_other (W:=w6) (g:=g2) (k:=g3) (.bool s5) (.slice A5 k5 ca5) (.slice B5 l5 cb5) (HGD.out.2.2.1);have rc:=put3b_row (Hg2.out w6 hx2.out) (.bool s5) (.slice A5 k5 ca5) (.slice B5 l5 cb5);have nA:=nm_put3b H5b.out (Hg2.out w6 hx2.out) (.bool s5) (.slice A5 k5 ca5) (.slice B5 l5 cb5);have nB:=nm_put3b H6.out (Hg2.out w6 hx2.out) (.bool s5) (.slice A5 k5 ca5) (.slice B5 l5 cb5);have eA:Ext w (put3at w6 g2 0 (.bool s5) (.slice A5 k5 ca5) (.slice B5 l5 cb5)):=(((al EW.out hx2.out).setCell HGD.out.2.2.2.1 _).setCell HGD.out.2.2.2.1 _).setCell HGD.out.2.2.2.1 _;have ra:=ra.trans (HRX.out w6 hx2.out);have rb:=rb.trans (Hg3.out w6 hx2.out);generalize hW8:(World.setCell (World.setCell (World.setCell w6 ⟨g2,0,none⟩ (.bool s5)) ⟨g2,1,none⟩ (.slice A5 k5 ca5)) ⟨g2,2,none⟩ (.slice B5 l5 cb5))=W8;have hW8':put3at w6 g2 0 (.bool s5) (.slice A5 k5 ca5) (.slice B5 l5 cb5)=W8:=hW8;rw [hW8'] at ra rb rc nA nB eA;have RA:=ZZ ra;have RB:=ZZ rb;have RC:=ZZ rc;have NA:=ZZ nA;have NB:=ZZ nB;have EA:=ZZ eA;clear ra rb rc nA nB eA hW8 hW8' zz0 zz1 zz2 zf0 zf1 zf2;refine hK.out _ _ (by obtain⟨y0,y1,y2,y3,y4,y5,-⟩:=ai RA.out;exact⟨y0,y1,y2,y3,y4,y5⟩) (fun hHeld=>?_);clear hK K
  try simp only [Act.put,lyA,lyB,lyC]
  refine call_p (i:=11) none rfl rfl (by kernel_rfl) (fun K hK=>?_);obtain⟨zz0,zz1,zz2,zf0,zf1,zf2⟩:=aj RB.out
  go_simp
  have ra:=(put3b_other (W:=W8) (g:=g3) (k:=gx) (.bool s6) (.slice A6 k6 ca6) (.slice B6 l6 cb6) (fun e=>HGD.out.2.1 e.symm)).trans RA.out;have rd:=(put3b_other (W:=W8) (g:=g3) (k:=g2) (.bool s6) (.slice A6 k6 ca6) (.slice B6 l6 cb6) ((fun e=>HGD.out.2.2.1 e.symm))).trans RC.out;have rc:=put3b_row RB.out (.bool s6) (.slice A6 k6 ca6) (.slice B6 l6 cb6);have nA:=nm_put3b NA.out RB.out (.bool s6) (.slice A6 k6 ca6) (.slice B6 l6 cb6);have nB:=nm_put3b NB.out RB.out (.bool s6) (.slice A6 k6 ca6) (.slice B6 l6 cb6);have eA:Ext w (put3at W8 g3 0 (.bool s6) (.slice A6 k6 ca6) (.slice B6 l6 cb6)):=((EA.out.setCell HGD.out.2.2.2.2 _).setCell HGD.out.2.2.2.2 _).setCell HGD.out.2.2.2.2 _;generalize hW9:(World.setCell (World.setCell (World.setCell W8 ⟨g3,0,none⟩ (.bool s6)) ⟨g3,1,none⟩ (.slice A6 k6 ca6)) ⟨g3,2,none⟩ (.slice B6 l6 cb6))=W9;have hW9':put3at W8 g3 0 (.bool s6) (.slice A6 k6 ca6) (.slice B6 l6 cb6)=W9:=hW9;rw [hW9'] at ra rd rc nA nB eA;have RA9:=ZZ ra;have RD9:=ZZ rd;have RC9:=ZZ rc;have NA9:=ZZ nA;have NB9:=ZZ nB;have EA9:=ZZ eA;clear ra rd rc nA nB eA hW9 hW9' zz0 zz1 zz2 zf0 zf1 zf2;refine hK.out _ _ (by obtain⟨y0,y1,y2,y3,y4,y5,-⟩:=ai RA9.out;exact⟨y0,y1,y2,y3,y4,y5⟩) (fun hHeld=>?_);clear hK K
  try simp only [Act.put,lyA,lyB,lyC]
  refine wpAnyH_done (by kernel_rfl) ?_ _;refine NoPanic.normal ?_;obtain⟨a0,a1,a2,-⟩:=aj RD9.out;obtain⟨b0,b1,b2,-⟩:=aj RC9.out;go_wp2_with fail;refine bodyPost_ret (v:=.tuple #[.agg #[.bool s5,.slice A5 k5 ca5,.slice B5 l5 cb5],.agg #[.bool s6,.slice A6 k6 ca6,.slice B6 l6 cb6]]) (by simp [results,Tryz.f54];go_simp) rfl ?_;exact⟨_,_,rfl,NA9.out,NB9.out,EA9.out⟩
end Go.Proofs.YtaaoleakkaloeaaGreatDoor
