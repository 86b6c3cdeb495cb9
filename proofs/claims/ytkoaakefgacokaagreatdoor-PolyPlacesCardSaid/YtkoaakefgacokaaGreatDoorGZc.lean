/- Changes of sign in a chain at a number, twice. -/
import Derived.Test.YtkoaakefgacokaaGreatDoorGZb
set_option linter.unusedVariables false
set_option linter.unusedSimpArgs false
set_option maxRecDepth 100000
set_option maxHeartbeats 64000000
namespace Go.Proofs.YtkoaakefgacokaaGreatDoor
open Go.RowKit
def stepsU:List Int→Int
 | a :: b :: l=>max (b - a) (-(b - a))+stepsU (b :: l)
 | _=>0
def stepsF (c:List (List Rat)) (x:Rat):Int:=stepsU (c.map (atF x))
theorem stepsU_short {l:List Int} (h:l.length≤1):stepsU l=0:=by
 match l,h with
 | [],_=>rfl
 | [a],_=>rfl
theorem at_range (x:Rat) (l:List Rat):-1≤atF x l∧atF x l≤1:=by
 unfold atF
 rcases Int.lt_trichotomy (evR l x).num 0 with h|h|h
 ·rw [Int.sign_eq_neg_one_of_neg h];decide
 ·rw [h];decide
 ·rw [Int.sign_eq_one_of_pos h];decide
theorem steps_range (x:Rat):∀c:List (List Rat),0≤stepsF c x∧stepsF c x≤2*(c.length:Int)
 | []=>⟨Int.le_refl _,Int.le_refl _⟩
 | [a]=>⟨Int.le_refl _,by simp [stepsF,stepsU]⟩
 | a :: b :: l=>by
  have h:=steps_range x (b :: l);have h1:=at_range x a;have h2:=at_range x b;have e:stepsF (a :: b :: l) x=max (atF x b - atF x a) (-(atF x b - atF x a))+stepsF (b :: l) x:=rfl;rw [e]
  simp only [List.length_cons] at h ⊢
  omega
theorem at_call (M:Nat) (hM0:0<M) (hM:M≤5400000000) (x:Rat) (bx:Bq M x) {w:World} {s1:Bool} {A1:Option Addr} {k1 ca1:Nat} {B1:Option Addr} {l1 cb1:Nat} (hx:Nm w (.agg #[.bool s1,.slice A1 k1 ca1,.slice B1 l1 cb1]) x) (W:World) (k:Ext (w.alloc (.cells #[.bool s1,.slice A1 k1 ca1,.slice B1 l1 cb1] 38)) W) (v:Value) (l:List Rat) (hp:Pl W v l) (hl:PreM M l):Calls Tryz.prog 115 #[v,.pointer (some ⟨w.heap.size,0,none⟩)] W fun e W'=>e=.returned (.int .i64 (atF x l))∧Ext W W':=
 at1_p M hM0 x bx w.heap.size s1 A1 k1 ca1 B1 l1 cb1 v l (by have:=hl.1;omega) (k_of hM hl.1) hl.2 W ((k.block _ (lt_of_block (heap_alloc_new w _))).trans (heap_alloc_new w _)) (hx.mono (al (ab _ _) k)) hp
theorem steps_p (M:Nat) (hM0:0<M) (hM:M≤5400000000) (v vx:Value) (c:List (List Rat)) (x:Rat) (hn:c.length≤1000000) (hc:cB M c=true) (w:World) (h:PlL w v c) (hx:Nm w vx x) (bx:Bq M x) (z:Int) (hz:stepsF c x=z):Calls Tryz.prog 36 #[v,vx] w fun e w'=>e=.returned (.int .i64 z)∧Ext w w':=by
 obtain⟨s1,A1,k1,ca1,B1,l1,cb1,rfl⟩:=hx.form2;have x1:=ab w (.cells #[.bool s1,.slice A1 k1 ca1,.slice B1 l1 cb1] 38);have N1:=ZZ (hx.mono x1);have HP:=h.mono x1;have R1:=ZZ (heap_alloc_new w (.cells #[.bool s1,.slice A1 k1 ca1,.slice B1 l1 cb1] 38));have EW:=ZZ x1;obtain⟨A,cap,rfl,-,hA⟩:=HP;obtain⟨n,hnn⟩:∃n,c.length=n:=⟨_,rfl⟩;rw [hnn];have HNN:=ZZ hnn;have HA:=ZZ hA;have HN:=ZZ hn;have HPR:=ZZ (cB_of hc);have HM0:=ZZ hM0;have HM:=ZZ hM;have BX:=ZZ bx;have HZ:=ZZ hz;have hun:undef=.tuple #[]:=rfl;clear hnn hA hn hc hM0 hM bx hz h hx x1
 go_enter Tryz.func36,Tryz.ntmps36
 go_upto_region 1 with (fail)
 generalize w.alloc (.cells #[.bool s1,.slice A1 k1 ca1,.slice B1 l1 cb1] _)=W0 at *;obtain⟨gx,hgx⟩:∃g,w.heap.size=g:=⟨_,rfl⟩;rw [hgx] at R1;rw [hgx];clear hgx;go_wp2_with fail
 go_loopg [6,5] (n - 1) (fun k i cn wr=>∃(t:Nat) (a:Int),Hid (t+k=n - 1)∧i=.int .i64 ((t+1:Nat):Int)∧cn=.int .i64 a∧Hid (a+stepsF (c.drop t) x=z)∧Hid (0≤a∧a≤2*(t:Int))∧Hid (Ext W0 wr))
 case atStart=>exact⟨0,0,ZZ (Nat.zero_add _),rfl,rfl,ZZ (by rw [Int.zero_add];exact HZ.out),ZZ ⟨Int.le_refl _,Int.le_refl _⟩,ZZ (ae _)⟩
 case round=>
  obtain⟨t,a,HJ,rfl,rfl,HU,HB,HE⟩:=hrel;rename World=>WR;obtain⟨j,hj⟩:∃j,t+1=j:=⟨_,rfl⟩;rw [hj];have HTJ:=ZZ hj
  rcases Nat.eq_zero_or_pos gk with hz|hz
  ·subst hz
   have q1:decide ((j:Int)<(n:Int))=false:=decide_eq_false (by have:=HJ.out;omega);have q1':¬(j:Int)<(n:Int):=by have:=HJ.out;omega
   have HZA:=ZZ (show a=z from by
    have h:=HU.out;unfold stepsF at h;rw [stepsU_short (by rw [List.length_map,List.length_drop];have h1:=HJ.out;have h2:=HNN.out;omega)] at h
    omega)
   clear hj;go_wp2_with fail;go_ret;exact⟨by rw [←HZA.out];rfl,al EW.out HE.out⟩
  ·have hjn:j<n:=by have:=HJ.out;omega
   have hjl:j<c.length:=by rw [HNN.out];exact hjn
   have htl:t<c.length:=by omega
   have q1:decide ((j:Int)<(n:Int))=true:=decide_eq_true (by omega);have q4:(j:Int)<(n:Int):=by omega
   have q5:(0:Int)≤(j:Int):=by omega
   have q6:IntKind.i64.wrap ((j:Int) - 1)=(t:Int):=by
    have h1:=HN.out;have h2:=HNN.out;rw [IntWalk.i64_in _ (by omega)];omega
   have q7:(t:Int)<(n:Int):=by omega
   have q8:(0:Int)≤(t:Int):=by omega
   rcases HA.out with ⟨-,h5⟩|⟨bb,o,rfl,ht⟩
   ·rw [h5] at hjl;simp at hjl
   obtain⟨p1,hp1⟩:∃l,c[j]?=some l:=⟨c[j]'hjl,List.getElem?_eq_getElem _⟩;obtain⟨p0,hp0⟩:∃l,c[t]?=some l:=⟨c[t]'htl,List.getElem?_eq_getElem _⟩;obtain⟨u1,d1,hu1⟩:=ht j p1 hp1;obtain⟨u0,d0,hu0⟩:=ht t p0 hp0;obtain⟨U1,n1,c1,rfl,-⟩:=hu1.form;obtain⟨U0,n0,c0,rfl,-⟩:=hu0.form;obtain⟨a1,ha1⟩:∃s,atF x p1=s:=⟨_,rfl⟩;obtain⟨a0,ha0⟩:∃s,atF x p0=s:=⟨_,rfl⟩
   have hd:c.drop t=p0 :: p1 :: c.drop (t+1+1):=by
    obtain⟨h1,e1⟩:=List.getElem?_eq_some_iff.1 hp0;obtain⟨h2,e2⟩:=List.getElem?_eq_some_iff.1 (hj ▸ hp1);rw [List.drop_eq_getElem_cons h1,e1,List.drop_eq_getElem_cons h2,e2]
   have hd1:c.drop (t+1)=p1 :: c.drop (t+1+1):=by
    obtain⟨h2,e2⟩:=List.getElem?_eq_some_iff.1 (hj ▸ hp1);rw [List.drop_eq_getElem_cons h2,e2]
   have r0:=at_range x p0;have r1:=at_range x p1;rw [ha0] at r0;rw [ha1] at r1;obtain⟨df,hdf⟩:∃d,a1 - a0=d:=⟨_,rfl⟩;have q9:IntKind.i64.wrap (a1 - a0)=df:=by rw [←hdf];exact IntWalk.i64_in _ (by omega)
   have HDF:=ZZ hdf;have HDR:=ZZ (show -2≤df∧df≤2 from by omega)
   have HU2:=ZZ (show a+(max df (-df)+stepsF (c.drop (t+1)) x)=z from by
    have h:=HU.out;rw [hd] at h;have e:stepsF (p0 :: p1 :: c.drop (t+1+1)) x=max (atF x p1 - atF x p0) (-(atF x p1 - atF x p0))+stepsF (p1 :: c.drop (t+1+1)) x:=rfl;rw [e,←hd1,ha1,ha0,hdf] at h;exact h)
   have HA1:=ZZ ha1;have HA0:=ZZ ha0;have HU1:=ZZ (hu1.mono HE.out);have HU0:=ZZ (hu0.mono HE.out);have PR1:=ZZ (HPR.out p1 (List.mem_of_getElem? hp1));have PR0:=ZZ (HPR.out p0 (List.mem_of_getElem? hp0));have HZ2:=ZZ hz;have HJN:=ZZ hjn
   have HC:=ZZ (show ∀W,Ext WR W→W.cell? ⟨gx,0,none⟩=some (.bool s1)∧W.cell? ⟨gx,1,none⟩=some (.slice A1 k1 ca1)∧W.cell? ⟨gx,2,none⟩=some (.slice B1 l1 cb1)∧W.cell? ⟨bb,o+j,none⟩=some (.slice U1 n1 c1)∧W.cell? ⟨bb,o+t,none⟩=some (.slice U0 n0 c0) from fun W k=>by
    obtain⟨y0,y1,y2,-⟩:=aj (((al HE.out k).block _ (lt_of_block R1.out)).trans R1.out);exact⟨y0,y1,y2,ao (al HE.out k) d1,ao (al HE.out k) d0⟩)
   have N1:=ZZ (N1.out.mono HE.out);clear hj hz hjn hjl htl ht hp1 hp0 d1 d0 hu1 hu0 ha1 ha0 hd hd1 r0 r1 hdf HU
   go_upto_region 5 with (fail)
   refine wp_region_noPanic ?_;refine wp_region_held_drew (S:=fun W=>W.cell? ⟨gx,0,none⟩=some (.bool s1)∧W.cell? ⟨gx,1,none⟩=some (.slice A1 k1 ca1)∧W.cell? ⟨gx,2,none⟩=some (.slice B1 l1 cb1)∧W.cell? ⟨bb,o+j,none⟩=some (.slice U1 n1 c1)∧W.cell? ⟨bb,o+t,none⟩=some (.slice U0 n0 c0)) (by kernel_rfl) (HC.out _ (ac _)) (fun hHeld=>?_);refine take_a 0 14 ?_;refine take_a 2 16 ?_;refine take_a 3 17 ?_;refine take_a 4 18 ?_;refine take_a 5 19 ?_;refine take_a 7 21 ?_;refine take_a 9 23 ?_;refine take_a 10 24 ?_;refine take_a 11 25 ?_;refine take_a 12 26 ?_;refine take_a 13 27 ?_;refine call_p (i:=1) (some 15) rfl rfl (by kernel_rfl) (fun K hK=>?_)
   go_simp
   go_at_call 79
   refine(at_c _ x _ (N1.out.mono (ac _))).mono ?_;rintro e x1 ⟨rfl,hw1⟩;have SG1:=ZZ (hw1 ▸ at_call M HM0.out HM.out x BX.out (N1.out.mono (ac _)));have hx1:=ZZ (show Ext WR x1 from by rw [hw1];exact al (ac _) (ab _ _));clear hw1
   try go_wp2_with fail
   refine hK.out _ _ (HC.out _ hx1.out) (fun hHeld=>?_);clear hK K
   try simp only [Act.put,lyA,lyB,lyC]
   refine call_p (i:=6) (some 20) rfl rfl (by kernel_rfl) (fun K hK=>?_)
   go_simp
   go_at_call 115
   refine(SG1.out _ (ae _) _ _ (HU1.out.mono hx1.out) PR1.out).mono ?_;rintro e x6 ⟨rfl,kk⟩;rw [HA1.out];have hx6:=ZZ (al hx1.out kk);clear kk
   try go_wp2_with fail
   refine hK.out _ _ (HC.out _ hx6.out) (fun hHeld=>?_);clear hK K
   try simp only [Act.put,lyA,lyB,lyC]
   refine call_p (i:=8) (some 22) rfl rfl (by kernel_rfl) (fun K hK=>?_)
   go_simp
   go_at_call 79
   refine(at_c _ x _ (N1.out.mono (hx6.out))).mono ?_;rintro e x8 ⟨rfl,hw8⟩;have SG8:=ZZ (hw8 ▸ at_call M HM0.out HM.out x BX.out (N1.out.mono (hx6.out)));have hx8:=ZZ (show Ext WR x8 from by rw [hw8];exact al (hx6.out) (ab _ _));clear hw8
   try go_wp2_with fail
   refine hK.out _ _ (HC.out _ hx8.out) (fun hHeld=>?_);clear hK K
   try simp only [Act.put,lyA,lyB,lyC]
   refine call_p (i:=14) (some 28) rfl rfl (by kernel_rfl) (fun K hK=>?_)
   go_simp
   go_at_call 115
   refine(SG8.out _ (ae _) _ _ (HU0.out.mono hx8.out) PR0.out).mono ?_;rintro e x14 ⟨rfl,kk⟩;rw [HA0.out];have hx14:=ZZ (al hx8.out kk);clear kk
   try go_wp2_with fail
   refine hK.out _ _ (HC.out _ hx14.out) (fun hHeld=>?_);clear hK K
   try simp only [Act.put,lyA,lyB,lyC]
   refine take_a 15 29 ?_;refine take_a 16 7 ?_;refine wpAnyH_done (by kernel_rfl) ?_ _;refine NoPanic.normal ?_;obtain⟨mx,hmx⟩:∃m,max df (-df)=m:=⟨_,rfl⟩;have HMX:=ZZ hmx;have q10:IntKind.i64.wrap (-df) = -df:=by have:=HDR.out;exact IntWalk.i64_in _ (by omega)
   have q11:IntKind.i64.wrap (a+mx)=a+mx:=by
    have h1:=HDR.out;have h2:=HB.out;have h3:=HJN.out;have h4:=HN.out;have h5:=HNN.out;have h6:=HTJ.out;exact IntWalk.i64_in _ (by omega)
   have HMR:=ZZ (show 0≤mx∧mx≤2 from by have:=HDR.out;omega);clear hmx;go_wp2_with fail
   go_roundg (gk - 1)
   case measure=>have:=HZ2.out;omega
   case rel=>
    refine⟨t+1,a+mx,ZZ (by have:=HJ.out;have:=HZ2.out;omega),?_,?_,ZZ (by have h:=HU2.out;rw [HMX.out] at h;rw [Int.add_assoc];exact h),ZZ (by have h1:=HMR.out;have h2:=HB.out;push_cast;omega),ZZ (al HE.out hx14.out)⟩
    ·have h6:=HTJ.out
     have h5:=HNN.out;have h4:=HN.out;have h3:=HJN.out;rw [IntWalk.wrap64_in _ ⟨by omega,by omega⟩]
     congr 1
     omega
    ·have h6:=HTJ.out
     have h5:=HNN.out;have h4:=HN.out;have h3:=HJN.out;have h2:=HB.out;have h1:=HMR.out;rw [HMX.out,IntWalk.wrap64_in _ ⟨by omega,by omega⟩]
def sgq (x:Rat):Int:=x.num.sign
theorem sgq_vals (x:Rat):(sgq x=0∧x=0)∨(sgq x=1∧0<x)∨(sgq x = -1∧x<0):=by
 unfold sgq
 rcases rat_tri x 0 with h|h|h
 ·exact .inr (.inr ⟨sign_neg' h,h⟩)
 ·exact .inl ⟨by rw [h];rfl,h⟩
 ·exact .inr (.inl ⟨sign_pos' h,h⟩)
theorem sgq_pos {x:Rat} (h:0<x):sgq x=1:=sign_pos' h
theorem sgq_neg {x:Rat} (h:x<0):sgq x = -1:=sign_neg' h
theorem sgq_mul (x y:Rat):sgq (x*y)=sgq x*sgq y:=by
 rcases sgq_vals x with ⟨a,h⟩|⟨a,h⟩|⟨a,h⟩ <;> rcases sgq_vals y with ⟨b,k⟩|⟨b,k⟩|⟨b,k⟩ <;> rw [a,b]
 ·rw [h,k];rw [show (0:Rat)*0=0 by grind];rfl
 ·rw [h,show (0:Rat)*y=0 by grind];rfl
 ·rw [h,show (0:Rat)*y=0 by grind];rfl
 ·rw [k,show x*(0:Rat)=0 by grind];rfl
 ·exact sgq_pos (Rat.mul_pos h k)
 ·have:=Rat.mul_pos h (show 0 < -y by grind)
  exact sgq_neg (by grind)
 ·rw [k,show x*(0:Rat)=0 by grind];rfl
 ·have:=Rat.mul_pos (show 0 < -x by grind) k
  exact sgq_neg (by grind)
 ·have:=Rat.mul_pos (show 0 < -x by grind) (show 0 < -y by grind)
  exact sgq_pos (by grind)
theorem sgq_min (x:Rat):sgq (-x) = -sgq x:=by
 rcases sgq_vals x with ⟨a,h⟩|⟨a,h⟩|⟨a,h⟩ <;> rw [a]
 ·rw [h];rfl
 ·exact sgq_neg (by grind)
 ·exact sgq_pos (by grind)
def SumS (a b m:Int):Prop:=(0≤a→0≤b→0≤m)∧(a≤0→b≤0→m≤0)∧(0≤a→0≤b→0<a+b→m=1)∧(a≤0→b≤0→a+b<0→m = -1)
instance (a b m:Int):Decidable (SumS a b m):=by unfold SumS;exact inferInstance
theorem sum_s (x y:Rat):SumS (sgq x) (sgq y) (sgq (x+y)):=by
 rcases sgq_vals x with ⟨a,h⟩|⟨a,h⟩|⟨a,h⟩ <;> rcases sgq_vals y with ⟨b,k⟩|⟨b,k⟩|⟨b,k⟩ <;> rw [a,b]
 ·rw [h,k,show (0:Rat)+0=0 by grind];decide
 ·rw [sgq_pos (show 0<x+y by grind)];decide
 ·rw [sgq_neg (show x+y<0 by grind)];decide
 ·rw [sgq_pos (show 0<x+y by grind)];decide
 ·rw [sgq_pos (show 0<x+y by grind)];decide
 ·rcases sgq_vals (x+y) with ⟨c,-⟩|⟨c,-⟩|⟨c,-⟩ <;> rw [c] <;> decide
 ·rw [sgq_neg (show x+y<0 by grind)];decide
 ·rcases sgq_vals (x+y) with ⟨c,-⟩|⟨c,-⟩|⟨c,-⟩ <;> rw [c] <;> decide
 ·rw [sgq_neg (show x+y<0 by grind)];decide
def Qi (a b:Int):Int:=if b=0 then (if a=1 then 0 else 4) else if b=1 then (if a=1 then 1 else if a=0 then 2 else 3) else if a = -1 then 5 else if a=0 then 6 else 7
def Qd (x y:Rat):Int:=Qi (sgq x) (sgq y)
def rep8 (n:Int):Int:=(n+3) % 8 - 3
theorem rep8_mod (n:Int):(n - rep8 n) % 8=0:=by unfold rep8;omega
def Lf (q:Int):Int:=2*(q / 4)+if q % 4=0 then 0 else 1
theorem Lf_add (q k:Int):Lf (q+8*k)=Lf q+4*k:=by
 unfold Lf;have h1:(q+8*k) / 4=q / 4+2*k:=by omega
 have h2:(q+8*k) % 4=q % 4:=by omega
 rw [h1,h2];omega
def tri3:List Int:=[-1,0,1]
theorem sgq_in (x:Rat):sgq x ∈ tri3:=by
 rcases sgq_vals x with ⟨a,-⟩|⟨a,-⟩|⟨a,-⟩ <;> rw [a] <;> decide
theorem step_fin:∀a ∈ tri3,∀b ∈ tri3,∀c ∈ tri3,∀e ∈ tri3,(a*c=1∨b*e=1)→(-2≤rep8 (Qi c e - Qi a b)∧rep8 (Qi c e - Qi a b)≤2)∧(0<rep8 (Qi c e - Qi a b)→0≤a*e∧b*c≤0∧(0<a*e∨b*c<0))∧(rep8 (Qi c e - Qi a b)<0→a*e≤0∧0≤b*c∧(a*e<0∨0<b*c))∧(b=e→b≠0→Lf (Qi a b+rep8 (Qi c e - Qi a b))=Lf (Qi a b))∧(a=c→a≠0→Lf (Qi a b+rep8 (Qi c e - Qi a b)) - Lf (Qi a b)=a*(e - b)):=by decide +kernel
def dotq (x y u v:Rat):Rat:=x*u+y*v
def detq (x y u v:Rat):Rat:=x*v - y*u
def dQ (x y u v:Rat):Int:=rep8 (Qd u v - Qd x y)
theorem dotq_sg {x y u v:Rat} (h:0<dotq x y u v):sgq x*sgq u=1∨sgq y*sgq v=1:=by
 rw [←sgq_mul,←sgq_mul];unfold dotq at h
 rcases lt_or_le' 0 (x*u) with g|g
 ·exact .inl (sgq_pos g)
 ·exact .inr (sgq_pos (by grind))
theorem dQ_le {x y u v:Rat} (h:0<dotq x y u v):-2≤dQ x y u v∧dQ x y u v≤2:=(step_fin _ (sgq_in x) _ (sgq_in y) _ (sgq_in u) _ (sgq_in v) (dotq_sg h)).1
theorem sgq_le {x:Rat} (h:0≤sgq x):0≤x:=by rcases sgq_vals x with ⟨a,k⟩|⟨a,k⟩|⟨a,k⟩ <;> first|omega|grind
theorem sgq_ge {x:Rat} (h:sgq x≤0):x≤0:=by rcases sgq_vals x with ⟨a,k⟩|⟨a,k⟩|⟨a,k⟩ <;> first|omega|grind
theorem sgq_lt {x:Rat} (h:0<sgq x):0<x:=by rcases sgq_vals x with ⟨a,k⟩|⟨a,k⟩|⟨a,k⟩ <;> first|omega|grind
theorem sgq_gt {x:Rat} (h:sgq x<0):x<0:=by rcases sgq_vals x with ⟨a,k⟩|⟨a,k⟩|⟨a,k⟩ <;> first|omega|grind
theorem dQ_pos {x y u v:Rat} (h:0<dotq x y u v) (k:0<dQ x y u v):0<detq x y u v:=by
 obtain⟨h1,h2,h3⟩:=(step_fin _ (sgq_in x) _ (sgq_in y) _ (sgq_in u) _ (sgq_in v) (dotq_sg h)).2.1 k;rw [←sgq_mul] at h1 h2 h3;rw [←sgq_mul] at h3;have a1:=sgq_le h1;have a2:=sgq_ge h2;unfold detq
 rcases h3 with h|h
 ·have:=sgq_lt h;grind
 ·have:=sgq_gt h;grind
theorem dQ_neg {x y u v:Rat} (h:0<dotq x y u v) (k:dQ x y u v<0):detq x y u v<0:=by
 obtain⟨h1,h2,h3⟩:=(step_fin _ (sgq_in x) _ (sgq_in y) _ (sgq_in u) _ (sgq_in v) (dotq_sg h)).2.2.1 k;rw [←sgq_mul] at h1 h2 h3;rw [←sgq_mul] at h3;have a1:=sgq_ge h1;have a2:=sgq_le h2;unfold detq
 rcases h3 with h|h
 ·have:=sgq_gt h;grind
 ·have:=sgq_lt h;grind
theorem dQ_same {x y u v:Rat} (h:0<dotq x y u v) (k:sgq y=sgq v) (k0:sgq y≠0):Lf (Qd x y+dQ x y u v)=Lf (Qd x y):=
 (step_fin _ (sgq_in x) _ (sgq_in y) _ (sgq_in u) _ (sgq_in v) (dotq_sg h)).2.2.2.1 k k0
theorem dQ_cross {x y u v:Rat} (h:0<dotq x y u v) (k:sgq x=sgq u) (k0:sgq x≠0):Lf (Qd x y+dQ x y u v) - Lf (Qd x y)=sgq x*(sgq v - sgq y):=
 (step_fin _ (sgq_in x) _ (sgq_in y) _ (sgq_in u) _ (sgq_in v) (dotq_sg h)).2.2.2.2 k k0
theorem prod_fin:∀a ∈ tri3,∀b ∈ tri3,∀c ∈ tri3,∀e ∈ tri3,∀m ∈ tri3,∀n ∈ tri3,(a≠0∨b≠0)→(c≠0∨e≠0)→(m≠0∨n≠0)→SumS (a*c) (-(b*e)) m→SumS (a*e) (b*c) n→-1≤rep8 (Qi m n - Qi a b - Qi c e)∧rep8 (Qi m n - Qi a b - Qi c e)≤1:=by decide +kernel
def dlt (x y u v:Rat):Int:=rep8 (Qd (x*u - y*v) (x*v+y*u) - Qd x y - Qd u v)
theorem nz2 {x y:Rat} (h:x≠0∨y≠0):sgq x≠0∨sgq y≠0:=by
 rcases sgq_vals x with ⟨a,k⟩|⟨a,k⟩|⟨a,k⟩
 ·rcases sgq_vals y with ⟨b,l⟩|⟨b,l⟩|⟨b,l⟩
  ·rcases h with h|h
   ·exact absurd k h
   ·exact absurd l h
  ·exact .inr (by omega)
  ·exact .inr (by omega)
 ·exact .inl (by omega)
 ·exact .inl (by omega)
theorem sq_pos {x:Rat} (h:x≠0):0<x*x:=by
 rcases rat_tri x 0 with g|g|g
 ·have:=Rat.mul_pos (show 0 < -x by grind) (show 0 < -x by grind);grind
 ·exact absurd g h
 ·exact Rat.mul_pos g g
theorem sq_nn (x:Rat):0≤x*x:=by
 by_cases h:x=0
 ·rw [h];grind
 ·exact Rat.le_of_lt (sq_pos h)
theorem norm_pos {x y:Rat} (h:x≠0∨y≠0):0<x*x+y*y:=by
 have h1:=sq_nn x;have h2:=sq_nn y
 rcases h with h|h
 ·have:=sq_pos h;grind
 ·have:=sq_pos h;grind
theorem prod_nz {x y u v:Rat} (h:x≠0∨y≠0) (k:u≠0∨v≠0):x*u - y*v≠0∨x*v+y*u≠0:=by
 by_cases g:x*u - y*v=0
 ·by_cases f:x*v+y*u=0
  ·exfalso
   have h1:=Rat.mul_pos (norm_pos h) (norm_pos k);have h2:(x*x+y*y)*(u*u+v*v)=(x*u - y*v)*(x*u - y*v)+(x*v+y*u)*(x*v+y*u):=by grind
   rw [h2,g,f] at h1
   grind
  ·exact .inr f
 ·exact .inl g
theorem dlt_le {x y u v:Rat} (h:x≠0∨y≠0) (k:u≠0∨v≠0):-1≤dlt x y u v∧dlt x y u v≤1:=by
 refine prod_fin _ (sgq_in x) _ (sgq_in y) _ (sgq_in u) _ (sgq_in v) _ (sgq_in (x*u - y*v)) _ (sgq_in (x*v+y*u)) (nz2 h) (nz2 k) (nz2 (prod_nz h k)) ?_ ?_
 ·have:=sum_s (x*u) (-(y*v))
  rw [sgq_min,sgq_mul,sgq_mul,show x*u+-(y*v)=x*u - y*v by grind] at this;exact this
 ·have:=sum_s (x*v) (y*u)
  rw [sgq_mul,sgq_mul] at this;exact this
theorem dotq_nz {x y u v:Rat} (h:0<dotq x y u v):(x≠0∨y≠0)∧(u≠0∨v≠0):=by
 unfold dotq at h
 constructor
 ·by_cases g:x=0
  ·by_cases f:y=0
   ·rw [g,f] at h;grind
   ·exact .inr f
  ·exact .inl g
 ·by_cases g:u=0
  ·by_cases f:v=0
   ·rw [g,f] at h;grind
   ·exact .inr f
  ·exact .inl g
theorem dQ_prod {x y x' y' u v u' v':Rat} (h:0<dotq x y x' y') (k:0<dotq u v u' v') (l:0<dotq (x*u - y*v) (x*v+y*u) (x'*u' - y'*v') (x'*v'+y'*u')):dQ (x*u - y*v) (x*v+y*u) (x'*u' - y'*v') (x'*v'+y'*u') - dQ x y x' y' - dQ u v u' v'=dlt x' y' u' v' - dlt x y u v:=by
 obtain⟨p1,p2⟩:=dotq_nz h;obtain⟨q1,q2⟩:=dotq_nz k;have a1:=dQ_le h;have a2:=dQ_le k;have a3:=dQ_le l;have b1:=dlt_le p1 q1;have b2:=dlt_le p2 q2;have hdet:detq (x*u - y*v) (x*v+y*u) (x'*u' - y'*v') (x'*v'+y'*u')=dotq x y x' y'*detq u v u' v'+detq x y x' y'*dotq u v u' v':=by unfold detq dotq;grind
 have c1:0<dQ x y x' y'→0<dQ u v u' v'→0≤dQ (x*u - y*v) (x*v+y*u) (x'*u' - y'*v') (x'*v'+y'*u'):=fun m n=>by
  have m1:=Rat.mul_pos h (dQ_pos k n);have m2:=Rat.mul_pos (dQ_pos h m) k
  rcases Int.lt_or_le (dQ (x*u - y*v) (x*v+y*u) (x'*u' - y'*v') (x'*v'+y'*u')) 0 with g|g
  ·have:=dQ_neg l g
   rw [hdet] at this
   exfalso;grind
  ·exact g
 have c2:dQ x y x' y'<0→dQ u v u' v'<0→dQ (x*u - y*v) (x*v+y*u) (x'*u' - y'*v') (x'*v'+y'*u')≤0:=fun m n=>by
  have m1:=Rat.mul_pos h (show 0 < -detq u v u' v' by have:=dQ_neg k n;grind);have m2:=Rat.mul_pos (show 0 < -detq x y x' y' by have:=dQ_neg h m;grind) k
  rcases Int.lt_or_le 0 (dQ (x*u - y*v) (x*v+y*u) (x'*u' - y'*v') (x'*v'+y'*u')) with g|g
  ·have:=dQ_pos l g
   rw [hdet] at this
   exfalso;grind
  ·exact g
 have d1:=rep8_mod (Qd (x'*u' - y'*v') (x'*v'+y'*u') - Qd (x*u - y*v) (x*v+y*u));have d2:=rep8_mod (Qd x' y' - Qd x y);have d3:=rep8_mod (Qd u' v' - Qd u v);have d4:=rep8_mod (Qd (x'*u' - y'*v') (x'*v'+y'*u') - Qd x' y' - Qd u' v');have d5:=rep8_mod (Qd (x*u - y*v) (x*v+y*u) - Qd x y - Qd u v);have f1:rep8 (Qd (x'*u' - y'*v') (x'*v'+y'*u') - Qd (x*u - y*v) (x*v+y*u))=dQ (x*u - y*v) (x*v+y*u) (x'*u' - y'*v') (x'*v'+y'*u'):=rfl;have f2:rep8 (Qd x' y' - Qd x y)=dQ x y x' y':=rfl;have f3:rep8 (Qd u' v' - Qd u v)=dQ u v u' v':=rfl;have f4:rep8 (Qd (x'*u' - y'*v') (x'*v'+y'*u') - Qd x' y' - Qd u' v')=dlt x' y' u' v':=rfl;have f5:rep8 (Qd (x*u - y*v) (x*v+y*u) - Qd x y - Qd u v)=dlt x y u v:=rfl;rw [f1] at d1;rw [f2] at d2;rw [f3] at d3;rw [f4] at d4;rw [f5] at d5;clear f1 f2 f3 f4 f5 hdet;generalize dQ (x*u - y*v) (x*v+y*u) (x'*u' - y'*v') (x'*v'+y'*u')=A at *;generalize dQ x y x' y'=B at *;generalize dQ u v u' v'=C at *;generalize dlt x' y' u' v'=E at *;generalize dlt x y u v=F at *;generalize Qd (x'*u' - y'*v') (x'*v'+y'*u')=q1 at *;generalize Qd (x*u - y*v) (x*v+y*u)=q2 at *;generalize Qd x' y'=q3 at *;generalize Qd x y=q4 at *;generalize Qd u' v'=q5 at *;generalize Qd u v=q6 at *;omega
end Go.Proofs.YtkoaakefgacokaaGreatDoor
