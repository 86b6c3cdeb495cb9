/- Changes of sign in a chain at a number, twice. Printed by gen_zc.py. Spans: the middle, the width. -/
import Derived.Test.YtjamgccgoapbeaaGreatDoorGZb
import Derived.Test.YtjamgccgoapbeaaGreatDoorGYn
import Derived.Test.YtjamgccgoapbeaaGreatDoorGNh
set_option linter.unusedVariables false
set_option maxRecDepth 100000
set_option maxHeartbeats 64000000
namespace Go.Proofs.YtjamgccgoapbeaaGreatDoor
open Go Go.RowKit
set_option linter.unusedSimpArgs false
def stepsU:List Int→Int
 | a :: b :: l=>max (b - a) (-(b - a))+stepsU (b :: l)
 | _=>0
def stepsF (c:List (List Rat)) (x:Rat):Int:=stepsU (c.map (atF x))
theorem stepsU_short {l:List Int} (h:l.length≤1):stepsU l=0:=by
 match l,h with
 | [],_=>rfl
 | [a],_=>rfl
theorem at_range (x:Rat) (l:List Rat):-1≤atF x l∧atF x l≤1:=by
 unfold atF
 rcases Int.lt_trichotomy (evR l x).num 0 with h|h|h
 ·rw [Int.sign_eq_neg_one_of_neg h];decide
 ·rw [h];decide
 ·rw [Int.sign_eq_one_of_pos h];decide
theorem steps_range (x:Rat):∀c:List (List Rat),0≤stepsF c x∧stepsF c x≤2*(c.length:Int)
 | []=>⟨Int.le_refl _,Int.le_refl _⟩
 | [a]=>⟨Int.le_refl _,by simp [stepsF,stepsU]⟩
 | a :: b :: l=>by
  have h:=steps_range x (b :: l);have h1:=at_range x a;have h2:=at_range x b;have e:stepsF (a :: b :: l) x=max (atF x b - atF x a) (-(atF x b - atF x a))+stepsF (b :: l) x:=rfl;rw [e]
  simp only [List.length_cons] at h ⊢
  omega
theorem at_call (M:Nat) (hM0:0<M) (hM:M≤268435456) (x:Rat) (bx:Bq M x) {w:World} {s1:Bool} {A1:Option Addr} {k1 ca1:Nat} {B1:Option Addr} {l1 cb1:Nat} (hx:Nm w (.agg #[.bool s1,.slice A1 k1 ca1,.slice B1 l1 cb1]) x) (W:World) (k:Ext (w.alloc (.cells #[.bool s1,.slice A1 k1 ca1,.slice B1 l1 cb1] 35)) W) (v:Value) (l:List Rat) (hp:Pl W v l) (hl:PreM M l):Calls Tryz.prog 160 #[v,.pointer (some ⟨w.heap.size,0,none⟩)] W fun e W'=>e=.returned (.int .i64 (atF x l))∧Ext W W':=
 at1_p M hM0 x bx w.heap.size s1 A1 k1 ca1 B1 l1 cb1 v l (by have:=hl.1;omega) (k_of hM hl.1) hl.2 W ((k.block _ (lt_of_block (heap_alloc_new w _))).trans (heap_alloc_new w _)) (hx.mono (ak (ab _ _) k)) hp
theorem steps_p (M:Nat) (hM0:0<M) (hM:M≤268435456) (v vx:Value) (c:List (List Rat)) (x:Rat) (hn:c.length≤1000000) (hc:cB M c=true) (w:World) (h:PlL w v c) (hx:Nm w vx x) (bx:Bq M x) (z:Int) (hz:stepsF c x=z):Calls Tryz.prog 81 #[v,vx] w fun e w'=>e=.returned (.int .i64 z)∧Ext w w':=by
 obtain⟨s1,A1,k1,ca1,B1,l1,cb1,rfl⟩:=hx.form2;have x1:=ab w (.cells #[.bool s1,.slice A1 k1 ca1,.slice B1 l1 cb1] 35);have N1:=ZZ (hx.mono x1);have HP:=h.mono x1;have R1:=ZZ (heap_alloc_new w (.cells #[.bool s1,.slice A1 k1 ca1,.slice B1 l1 cb1] 35));have EW:=ZZ x1;obtain⟨A,cap,rfl,-,hA⟩:=HP;obtain⟨n,hnn⟩:∃n,c.length=n:=⟨_,rfl⟩;rw [hnn];have HNN:=ZZ hnn;have HA:=ZZ hA;have HN:=ZZ hn;have HPR:=ZZ (cB_of hc);have HM0:=ZZ hM0;have HM:=ZZ hM;have BX:=ZZ bx;have HZ:=ZZ hz;have hun:undef=.tuple #[]:=rfl;clear hnn hA hn hc hM0 hM bx hz h hx x1
 go_enter Tryz.func81,Tryz.ntmps81
 go_upto_region 1 with (fail)
 generalize w.alloc (.cells #[.bool s1,.slice A1 k1 ca1,.slice B1 l1 cb1] _)=W0 at *;obtain⟨gx,hgx⟩:∃g,w.heap.size=g:=⟨_,rfl⟩;rw [hgx] at R1;rw [hgx];clear hgx;go_wp2_with fail
 go_loopg [6,5] (n - 1) (fun k i cn wr=>∃(t:Nat) (a:Int),Hid (t+k=n - 1)∧i=.int .i64 ((t+1:Nat):Int)∧cn=.int .i64 a∧Hid (a+stepsF (c.drop t) x=z)∧Hid (0≤a∧a≤2*(t:Int))∧Hid (Ext W0 wr))
 case atStart=>exact⟨0,0,ZZ (Nat.zero_add _),rfl,rfl,ZZ (by rw [Int.zero_add];exact HZ.out),ZZ ⟨Int.le_refl _,Int.le_refl _⟩,ZZ (ae _)⟩
 case round=>
  obtain⟨t,a,HJ,rfl,rfl,HU,HB,HE⟩:=hrel;rename World=>WR;obtain⟨j,hj⟩:∃j,t+1=j:=⟨_,rfl⟩;rw [hj];have HTJ:=ZZ hj
  rcases Nat.eq_zero_or_pos gk with hz|hz
  ·subst hz
   have q1:decide ((j:Int)<(n:Int))=false:=decide_eq_false (by have:=HJ.out;omega);have q1':¬(j:Int)<(n:Int):=by have:=HJ.out;omega
   have HZA:=ZZ (show a=z from by
    have h:=HU.out;unfold stepsF at h;rw [stepsU_short (by rw [List.length_map,List.length_drop];have h1:=HJ.out;have h2:=HNN.out;omega)] at h
    omega)
   clear hj;go_wp2_with fail;go_ret;exact⟨by rw [←HZA.out];rfl,ak EW.out HE.out⟩
  ·have hjn:j<n:=by have:=HJ.out;omega
   have hjl:j<c.length:=by rw [HNN.out];exact hjn
   have htl:t<c.length:=by omega
   have q1:decide ((j:Int)<(n:Int))=true:=decide_eq_true (by omega);have q4:(j:Int)<(n:Int):=by omega
   have q5:(0:Int)≤(j:Int):=by omega
   have q6:IntKind.i64.wrap ((j:Int) - 1)=(t:Int):=by
    have h1:=HN.out;have h2:=HNN.out;rw [IntWalk.i64_in _ (by omega)];omega
   have q7:(t:Int)<(n:Int):=by omega
   have q8:(0:Int)≤(t:Int):=by omega
   rcases HA.out with ⟨-,h5⟩|⟨bb,o,rfl,ht⟩
   ·rw [h5] at hjl;simp at hjl
   obtain⟨p1,hp1⟩:∃l,c[j]?=some l:=⟨c[j]'hjl,List.getElem?_eq_getElem _⟩;obtain⟨p0,hp0⟩:∃l,c[t]?=some l:=⟨c[t]'htl,List.getElem?_eq_getElem _⟩;obtain⟨u1,d1,hu1⟩:=ht j p1 hp1;obtain⟨u0,d0,hu0⟩:=ht t p0 hp0;obtain⟨U1,n1,c1,rfl,-⟩:=hu1.form;obtain⟨U0,n0,c0,rfl,-⟩:=hu0.form;obtain⟨a1,ha1⟩:∃s,atF x p1=s:=⟨_,rfl⟩;obtain⟨a0,ha0⟩:∃s,atF x p0=s:=⟨_,rfl⟩
   have hd:c.drop t=p0 :: p1 :: c.drop (t+1+1):=by
    obtain⟨h1,e1⟩:=List.getElem?_eq_some_iff.1 hp0;obtain⟨h2,e2⟩:=List.getElem?_eq_some_iff.1 (hj ▸ hp1);rw [List.drop_eq_getElem_cons h1,e1,List.drop_eq_getElem_cons h2,e2]
   have hd1:c.drop (t+1)=p1 :: c.drop (t+1+1):=by
    obtain⟨h2,e2⟩:=List.getElem?_eq_some_iff.1 (hj ▸ hp1);rw [List.drop_eq_getElem_cons h2,e2]
   have r0:=at_range x p0;have r1:=at_range x p1;rw [ha0] at r0;rw [ha1] at r1;obtain⟨df,hdf⟩:∃d,a1 - a0=d:=⟨_,rfl⟩;have q9:IntKind.i64.wrap (a1 - a0)=df:=by rw [←hdf];exact IntWalk.i64_in _ (by omega)
   have HDF:=ZZ hdf;have HDR:=ZZ (show -2≤df∧df≤2 from by omega)
   have HU2:=ZZ (show a+(max df (-df)+stepsF (c.drop (t+1)) x)=z from by
    have h:=HU.out;rw [hd] at h;have e:stepsF (p0 :: p1 :: c.drop (t+1+1)) x=max (atF x p1 - atF x p0) (-(atF x p1 - atF x p0))+stepsF (p1 :: c.drop (t+1+1)) x:=rfl;rw [e,←hd1,ha1,ha0,hdf] at h;exact h)
   have HA1:=ZZ ha1;have HA0:=ZZ ha0;have HU1:=ZZ (hu1.mono HE.out);have HU0:=ZZ (hu0.mono HE.out);have PR1:=ZZ (HPR.out p1 (List.mem_of_getElem? hp1));have PR0:=ZZ (HPR.out p0 (List.mem_of_getElem? hp0));have HZ2:=ZZ hz;have HJN:=ZZ hjn
   have HC:=ZZ (show ∀W,Ext WR W→W.cell? ⟨gx,0,none⟩=some (.bool s1)∧W.cell? ⟨gx,1,none⟩=some (.slice A1 k1 ca1)∧W.cell? ⟨gx,2,none⟩=some (.slice B1 l1 cb1)∧W.cell? ⟨bb,o+j,none⟩=some (.slice U1 n1 c1)∧W.cell? ⟨bb,o+t,none⟩=some (.slice U0 n0 c0) from fun W k=>by
    obtain⟨y0,y1,y2,-⟩:=aj (((ak HE.out k).block _ (lt_of_block R1.out)).trans R1.out);exact⟨y0,y1,y2,ao (ak HE.out k) d1,ao (ak HE.out k) d0⟩)
   have N1:=ZZ (N1.out.mono HE.out);clear hj hz hjn hjl htl ht hp1 hp0 d1 d0 hu1 hu0 ha1 ha0 hd hd1 r0 r1 hdf HU
   go_upto_region 5 with (fail)
   refine wp_region_noPanic ?_;refine wp_region_held_drew (S:=fun W=>W.cell? ⟨gx,0,none⟩=some (.bool s1)∧W.cell? ⟨gx,1,none⟩=some (.slice A1 k1 ca1)∧W.cell? ⟨gx,2,none⟩=some (.slice B1 l1 cb1)∧W.cell? ⟨bb,o+j,none⟩=some (.slice U1 n1 c1)∧W.cell? ⟨bb,o+t,none⟩=some (.slice U0 n0 c0)) (by kernel_rfl) (HC.out _ (ac _)) (fun hHeld=>?_);refine take_p (i:=0) 14 (v:=?vv0) rfl rfl (by kernel_rfl) (by kernel_rfl) (by kernel_rfl) (fun _ _ _ h=>h) (Or.inl ⟨rfl,?hy0⟩) (by assumption) ?rr0
   case hy0=>(intro w hSw;(try dsimp only at hSw);go_simp;try with_reducible rfl)
   try simp only [Act.put,lyA,lyB,lyC]
   refine take_p (i:=2) 16 (v:=?vv2) rfl rfl (by kernel_rfl) (by kernel_rfl) (by kernel_rfl) (fun _ _ _ h=>h) (Or.inl ⟨rfl,?hy2⟩) (by assumption) ?rr2
   case hy2=>(intro w hSw;(try dsimp only at hSw);go_simp;try with_reducible rfl)
   try simp only [Act.put,lyA,lyB,lyC]
   refine take_p (i:=3) 17 (v:=?vv3) rfl rfl (by kernel_rfl) (by kernel_rfl) (by kernel_rfl) (fun _ _ _ h=>h) (Or.inl ⟨rfl,?hy3⟩) (by assumption) ?rr3
   case hy3=>(intro w hSw;(try dsimp only at hSw);go_simp;try with_reducible rfl)
   try simp only [Act.put,lyA,lyB,lyC]
   refine take_p (i:=4) 18 (v:=?vv4) rfl rfl (by kernel_rfl) (by kernel_rfl) (by kernel_rfl) (fun _ _ _ h=>h) (Or.inl ⟨rfl,?hy4⟩) (by assumption) ?rr4
   case hy4=>(intro w hSw;(try dsimp only at hSw);go_simp;try with_reducible rfl)
   try simp only [Act.put,lyA,lyB,lyC]
   refine take_p (i:=5) 19 (v:=?vv5) rfl rfl (by kernel_rfl) (by kernel_rfl) (by kernel_rfl) (fun _ _ _ h=>h) (Or.inl ⟨rfl,?hy5⟩) (by assumption) ?rr5
   case hy5=>(intro w hSw;(try dsimp only at hSw);go_simp;try with_reducible rfl)
   try simp only [Act.put,lyA,lyB,lyC]
   refine take_p (i:=7) 21 (v:=?vv7) rfl rfl (by kernel_rfl) (by kernel_rfl) (by kernel_rfl) (fun _ _ _ h=>h) (Or.inl ⟨rfl,?hy7⟩) (by assumption) ?rr7
   case hy7=>(intro w hSw;(try dsimp only at hSw);go_simp;try with_reducible rfl)
   try simp only [Act.put,lyA,lyB,lyC]
   refine take_p (i:=9) 23 (v:=?vv9) rfl rfl (by kernel_rfl) (by kernel_rfl) (by kernel_rfl) (fun _ _ _ h=>h) (Or.inl ⟨rfl,?hy9⟩) (by assumption) ?rr9
   case hy9=>(intro w hSw;(try dsimp only at hSw);go_simp;try with_reducible rfl)
   try simp only [Act.put,lyA,lyB,lyC]
   refine take_p (i:=10) 24 (v:=?vv10) rfl rfl (by kernel_rfl) (by kernel_rfl) (by kernel_rfl) (fun _ _ _ h=>h) (Or.inl ⟨rfl,?hy10⟩) (by assumption) ?rr10
   case hy10=>(intro w hSw;(try dsimp only at hSw);go_simp;try with_reducible rfl)
   try simp only [Act.put,lyA,lyB,lyC]
   refine take_p (i:=11) 25 (v:=?vv11) rfl rfl (by kernel_rfl) (by kernel_rfl) (by kernel_rfl) (fun _ _ _ h=>h) (Or.inl ⟨rfl,?hy11⟩) (by assumption) ?rr11
   case hy11=>(intro w hSw;(try dsimp only at hSw);go_simp;try with_reducible rfl)
   try simp only [Act.put,lyA,lyB,lyC]
   refine take_p (i:=12) 26 (v:=?vv12) rfl rfl (by kernel_rfl) (by kernel_rfl) (by kernel_rfl) (fun _ _ _ h=>h) (Or.inl ⟨rfl,?hy12⟩) (by assumption) ?rr12
   case hy12=>(intro w hSw;(try dsimp only at hSw);go_simp;try with_reducible rfl)
   try simp only [Act.put,lyA,lyB,lyC]
   refine take_p (i:=13) 27 (v:=?vv13) rfl rfl (by kernel_rfl) (by kernel_rfl) (by kernel_rfl) (fun _ _ _ h=>h) (Or.inl ⟨rfl,?hy13⟩) (by assumption) ?rr13
   case hy13=>(intro w hSw;(try dsimp only at hSw);go_simp;try with_reducible rfl)
   try simp only [Act.put,lyA,lyB,lyC]
   refine call_p (i:=1) (some 15) rfl rfl (by kernel_rfl) (fun K hK=>?_)
   go_simp
   go_at_call 117
   refine(at_c _ x _ (N1.out.mono (ac _))).mono ?_;rintro e x1 ⟨rfl,hw1⟩;have SG1:=ZZ (hw1 ▸ at_call M HM0.out HM.out x BX.out (N1.out.mono (ac _)));have hx1:=ZZ (show Ext WR x1 from by rw [hw1];exact ak (ac _) (ab _ _));clear hw1
   try go_wp2_with fail
   refine hK.out _ _ (HC.out _ hx1.out) (fun hHeld=>?_);clear hK K
   try simp only [Act.put,lyA,lyB,lyC]
   refine call_p (i:=6) (some 20) rfl rfl (by kernel_rfl) (fun K hK=>?_)
   go_simp
   go_at_call 160
   refine(SG1.out _ (ae _) _ _ (HU1.out.mono hx1.out) PR1.out).mono ?_;rintro e x6 ⟨rfl,kk⟩;rw [HA1.out];have hx6:=ZZ (ak hx1.out kk);clear kk
   try go_wp2_with fail
   refine hK.out _ _ (HC.out _ hx6.out) (fun hHeld=>?_);clear hK K
   try simp only [Act.put,lyA,lyB,lyC]
   refine call_p (i:=8) (some 22) rfl rfl (by kernel_rfl) (fun K hK=>?_)
   go_simp
   go_at_call 117
   refine(at_c _ x _ (N1.out.mono (hx6.out))).mono ?_;rintro e x8 ⟨rfl,hw8⟩;have SG8:=ZZ (hw8 ▸ at_call M HM0.out HM.out x BX.out (N1.out.mono (hx6.out)));have hx8:=ZZ (show Ext WR x8 from by rw [hw8];exact ak (hx6.out) (ab _ _));clear hw8
   try go_wp2_with fail
   refine hK.out _ _ (HC.out _ hx8.out) (fun hHeld=>?_);clear hK K
   try simp only [Act.put,lyA,lyB,lyC]
   refine call_p (i:=14) (some 28) rfl rfl (by kernel_rfl) (fun K hK=>?_)
   go_simp
   go_at_call 160
   refine(SG8.out _ (ae _) _ _ (HU0.out.mono hx8.out) PR0.out).mono ?_;rintro e x14 ⟨rfl,kk⟩;rw [HA0.out];have hx14:=ZZ (ak hx8.out kk);clear kk
   try go_wp2_with fail
   refine hK.out _ _ (HC.out _ hx14.out) (fun hHeld=>?_);clear hK K
   try simp only [Act.put,lyA,lyB,lyC]
   refine take_p (i:=15) 29 (v:=?vv15) rfl rfl (by kernel_rfl) (by kernel_rfl) (by kernel_rfl) (fun _ _ _ h=>h) (Or.inl ⟨rfl,?hy15⟩) (by assumption) ?rr15
   case hy15=>(intro w hSw;(try dsimp only at hSw);go_simp;try with_reducible rfl)
   try simp only [Act.put,lyA,lyB,lyC]
   refine take_p (i:=16) 7 (v:=?vv16) rfl rfl (by kernel_rfl) (by kernel_rfl) (by kernel_rfl) (fun _ _ _ h=>h) (Or.inl ⟨rfl,?hy16⟩) (by assumption) ?rr16
   case hy16=>(intro w hSw;(try dsimp only at hSw);go_simp;try with_reducible rfl)
   try simp only [Act.put,lyA,lyB,lyC]
   refine wpAnyH_done (by kernel_rfl) ?_ _;refine NoPanic.normal ?_;obtain⟨mx,hmx⟩:∃m,max df (-df)=m:=⟨_,rfl⟩;have HMX:=ZZ hmx;have q10:IntKind.i64.wrap (-df) = -df:=by have:=HDR.out;exact IntWalk.i64_in _ (by omega)
   have q11:IntKind.i64.wrap (a+mx)=a+mx:=by
    have h1:=HDR.out;have h2:=HB.out;have h3:=HJN.out;have h4:=HN.out;have h5:=HNN.out;have h6:=HTJ.out;exact IntWalk.i64_in _ (by omega)
   have HMR:=ZZ (show 0≤mx∧mx≤2 from by have:=HDR.out;omega);clear hmx;go_wp2_with fail
   go_roundg (gk - 1)
   case measure=>have:=HZ2.out;omega
   case rel=>
    refine⟨t+1,a+mx,ZZ (by have:=HJ.out;have:=HZ2.out;omega),?_,?_,ZZ (by have h:=HU2.out;rw [HMX.out] at h;rw [Int.add_assoc];exact h),ZZ (by have h1:=HMR.out;have h2:=HB.out;push_cast;omega),ZZ (ak HE.out hx14.out)⟩
    ·have h6:=HTJ.out
     have h5:=HNN.out;have h4:=HN.out;have h3:=HJN.out;rw [IntWalk.wrap64_in _ ⟨by omega,by omega⟩]
     congr 1
     omega
    ·have h6:=HTJ.out
     have h5:=HNN.out;have h4:=HN.out;have h3:=HJN.out;have h2:=HB.out;have h1:=HMR.out;rw [HMX.out,IntWalk.wrap64_in _ ⟨by omega,by omega⟩]
end Go.Proofs.YtjamgccgoapbeaaGreatDoor
set_option linter.unusedVariables false
set_option maxRecDepth 100000
set_option maxHeartbeats 64000000
namespace Go.Proofs.YtjamgccgoapbeaaGreatDoor
open Go.RowKit
theorem setG2q (w:World) (o p:Obj):Ext w ((w.alloc o).alloc p)∧((w.alloc o).alloc p).heap[w.heap.size]?=some o∧((w.alloc o).alloc p).heap[w.heap.size+1]?=some p:=by
 have x1:=ab w o;have x2:=ab (w.alloc o) p;have h1:=World.alloc_heap_new w o;have h2:=World.alloc_heap_new (w.alloc o) p;rw [World.size_alloc] at h2;exact⟨ak x1 x2,(x2.block _ (Array.getElem?_eq_some_iff.1 h1).1).trans h1,h2⟩
theorem midS_q (M:Nat) (hM:M≤67108863) (v:Value) (lo hi:Rat) (w:World) (h:Sp w v lo hi) (b1:Bq M lo) (b2:Bq M hi):Calls Tryz.prog 68 #[v] w fun e w'=>∃v',e=.returned v'∧Nm w' v' (shQ (lo+hi) (-1))∧Ext w w':=by
 obtain⟨b5,A5,k5,ca5,B5,l5,cb5,b6,A6,k6,ca6,B6,l6,cb6,rfl,hn1,hn2⟩:=h.form;have H1:=ZZ hn1;have H2:=ZZ hn2;have B1:=ZZ b1;have B2:=ZZ b2;have HM:=ZZ hM;obtain⟨hw0,hra,hrz⟩:=setG2q w (.cells #[.bool b5,.slice A5 k5 ca5,.slice B5 l5 cb5,.bool b6,.slice A6 k6 ca6,.slice B6 l6 cb6] 37) (.cells #[.bool false,.slice none 0 0,.slice none 0 0] 35);have hww:=ZZ hw0;have HRZ:=ZZ hrz;have LE:=ZZ (show w.heap.size≤w.heap.size+1 from Nat.le_succ _);obtain⟨x0,x1,x2,x3,x4,x5,-⟩:=ai hra;clear h hn1 hn2 b1 b2 hM hw0 hra hrz
 go_enter Tryz.func68,Tryz.ntmps68
 go_wp2_with fail;generalize World.alloc (World.alloc w (.cells #[.bool b5,.slice A5 k5 ca5,.slice B5 l5 cb5,.bool b6,.slice A6 k6 ca6,.slice B6 l6 cb6] _)) (.cells #[.bool false,.slice none 0 0,.slice none 0 0] _)=W2 at *
 refine(add_q M (Nat.le_trans HM.out (by decide)) _ _ lo hi _ (H1.out.mono hww.out) (H2.out.mono hww.out) B1.out B2.out).mono ?_;rintro e w3 ⟨v3,rfl,h3,k3⟩;have K3:=ZZ k3;have HRZ3:=ZZ ((k3.block _ (lt_of_block HRZ.out)).trans HRZ.out);have H3:=ZZ h3;clear h3 k3;go_wp2_with fail;refine(shifted_q (M+M+1) (by have:=HM.out;omega) (-1) (by decide) _ (lo+hi) _ H3.out (B1.out.add B2.out)).mono ?_;rintro e w4 ⟨v4,rfl,h4,k4⟩;obtain⟨b7,A7,k7,ca7,B7,l7,cb7,rfl⟩:=h4.form2;have K4:=ZZ (ak hww.out (ak K3.out k4));have H4:=ZZ h4;have hz:=(k4.block _ (lt_of_block HRZ3.out)).trans HRZ3.out;have HZ:=ZZ hz;obtain⟨z0,z1,z2,zf0,zf1,zf2⟩:=aj hz;clear h4 k4 hz;go_wp2_with fail;refine bodyPost_ret (v:=.agg #[.bool b7,.slice A7 k7 ca7,.slice B7 l7 cb7]) (by simp [results,Tryz.f68];go_simp) rfl ?_;exact⟨_,rfl,H4.out.put3 HZ.out,al K4.out LE.out _ _ _⟩
theorem widthS_q (M:Nat) (hM:M≤67108863) (v:Value) (lo hi:Rat) (w:World) (h:Sp w v lo hi) (b1:Bq M lo) (b2:Bq M hi):Calls Tryz.prog 66 #[v] w fun e w'=>∃v',e=.returned v'∧Nm w' v' (absQ (hi - lo))∧Ext w w':=by
 obtain⟨b5,A5,k5,ca5,B5,l5,cb5,b6,A6,k6,ca6,B6,l6,cb6,rfl,hn1,hn2⟩:=h.form;have H1:=ZZ hn1;have H2:=ZZ hn2;have B1:=ZZ b1;have B2:=ZZ b2;have HM:=ZZ hM;obtain⟨hw0,hra,hrz⟩:=setG2q w (.cells #[.bool b5,.slice A5 k5 ca5,.slice B5 l5 cb5,.bool b6,.slice A6 k6 ca6,.slice B6 l6 cb6] 37) (.cells #[.bool false,.slice none 0 0,.slice none 0 0] 35);have hww:=ZZ hw0;have HRZ:=ZZ hrz;have LE:=ZZ (show w.heap.size≤w.heap.size+1 from Nat.le_succ _);obtain⟨x0,x1,x2,x3,x4,x5,-⟩:=ai hra;clear h hn1 hn2 b1 b2 hM hw0 hra hrz
 go_enter Tryz.func66,Tryz.ntmps66
 go_wp2_with fail;generalize World.alloc (World.alloc w (.cells #[.bool b5,.slice A5 k5 ca5,.slice B5 l5 cb5,.bool b6,.slice A6 k6 ca6,.slice B6 l6 cb6] _)) (.cells #[.bool false,.slice none 0 0,.slice none 0 0] _)=W2 at *
 refine(sub_q M (Nat.le_trans HM.out (by decide)) _ _ hi lo _ (H2.out.mono hww.out) (H1.out.mono hww.out) B2.out B1.out).mono ?_;rintro e w3 ⟨v3,rfl,h3,k3⟩;have K3:=ZZ k3;have HRZ3:=ZZ ((k3.block _ (lt_of_block HRZ.out)).trans HRZ.out);have H3:=ZZ h3;clear h3 k3;go_wp2_with fail;refine(abs_q _ (hi - lo) _ H3.out).mono ?_;rintro e w4 ⟨v4,rfl,h4,k4⟩;obtain⟨b7,A7,k7,ca7,B7,l7,cb7,rfl⟩:=h4.form2;have K4:=ZZ (ak hww.out (ak K3.out k4));have H4:=ZZ h4;have hz:=(k4.block _ (lt_of_block HRZ3.out)).trans HRZ3.out;have HZ:=ZZ hz;obtain⟨z0,z1,z2,zf0,zf1,zf2⟩:=aj hz;clear h4 k4 hz;go_wp2_with fail;refine bodyPost_ret (v:=.agg #[.bool b7,.slice A7 k7 ca7,.slice B7 l7 cb7]) (by simp [results,Tryz.f66];go_simp) rfl ?_;exact⟨_,rfl,H4.out.put3 HZ.out,al K4.out LE.out _ _ _⟩
end Go.Proofs.YtjamgccgoapbeaaGreatDoor
