/- Differences of counts; Sturm's chain of a polynomial; Count. Printed by gen_yh.py. The reference's numbers: negative, size, sign, integers, quotients. Printed by gen_rq.py. The reference's numbers: comparison, sums, differences. Printed by gen_rs.py. -/
import Derived.Test.YtjamgccgoapbeaaGreatDoorGYg
import Derived.Test.YtjamgccgoapbeaaGreatDoorGRp
import Derived.Test.YtjamgccgoapbeaaGreatDoorGNg
import Derived.Deep.DeepCutAuto
set_option linter.unusedVariables false
set_option maxRecDepth 100000
set_option maxHeartbeats 64000000
namespace Go.Proofs.YtjamgccgoapbeaaGreatDoor
open Go Go.RowKit
set_option linter.unusedSimpArgs false
def PreM (M:Nat) (l:List Rat):Prop:=l.length≤1000∧∀x ∈ l,Bq M x
def cB (M:Nat) (c:List (List Rat)):Bool:=c.all fun l=>smB M l && decide (l.length≤1000)
theorem cB_of {M:Nat} {c:List (List Rat)} (h:cB M c=true):∀l ∈ c,PreM M l:=fun l hl=>by
 have h1:=List.all_eq_true.1 h l hl;rw [Bool.and_eq_true] at h1;exact⟨of_decide_eq_true h1.2,sm_of h1.1⟩
theorem k_of {M n:Nat} (hM:M≤268435456) (hn:n≤1000):n*(M+M+1)+1+M≤1099511627776:=by
 have h1:n*(M+M+1)≤1000*(M+M+1):=Nat.mul_le_mul_right _ hn;omega
theorem sgn_at (M:Nat) (hM0:0<M) (hM:M≤268435456) (x:Rat) (bx:Bq M x) {w:World} {s1:Bool} {A1:Option Addr} {k1 ca1:Nat} {B1:Option Addr} {l1 cb1:Nat} (hx:Nm w (.agg #[.bool s1,.slice A1 k1 ca1,.slice B1 l1 cb1]) x):SgnV (w.alloc (.cells #[.bool s1,.slice A1 k1 ca1,.slice B1 l1 cb1] 35)) (.func (.func 160) #[] #[.pointer (some ⟨w.heap.size,0,none⟩)]) (atF x) (PreM M):=
 ⟨160,#[.pointer (some ⟨w.heap.size,0,none⟩)],rfl,enters_of Tryz.func160 (by kernel_rfl) rfl,fun W k v l hp hl=>
  at1_p M hM0 x bx w.heap.size s1 A1 k1 ca1 B1 l1 cb1 v l (by have:=hl.1;omega) (k_of hM hl.1) hl.2 W ((k.block _ (lt_of_block (heap_alloc_new w _))).trans (heap_alloc_new w _)) (hx.mono (am (ab _ _) k)) hp⟩
def betweenF (c:List (List Rat)) (lo hi:Rat):Int:=flipsF c (atF lo) - flipsF c (atF hi)
theorem between_p (M:Nat) (hM0:0<M) (hM:M≤268435456) (v vl vh:Value) (c:List (List Rat)) (lo hi:Rat) (hn:c.length≤1000000) (hc:cB M c=true) (w:World) (h:PlL w v c) (hlo:Nm w vl lo) (hhi:Nm w vh hi) (blo:Bq M lo) (bhi:Bq M hi):Calls Tryz.prog 65 #[v,vl,vh] w fun e w'=>e=.returned (.int .i64 (betweenF c lo hi))∧Ext w w':=by
 obtain⟨s1,A1,k1,ca1,B1,l1,cb1,rfl⟩:=hlo.form2;obtain⟨s2,A2,k2,ca2,B2,l2,cb2,rfl⟩:=hhi.form2;obtain⟨A,cap,e0,-⟩:=id h;obtain⟨n,hnn⟩:∃n,c.length=n:=⟨_,rfl⟩;rw [hnn] at e0;subst e0;obtain⟨z1,hz1⟩:∃z,flipsF c (atF lo)=z:=⟨_,rfl⟩;obtain⟨z2,hz2⟩:∃z,flipsF c (atF hi)=z:=⟨_,rfl⟩;have hb1:=flips_bound 0 (c.map (atF lo));have hb2:=flips_bound 0 (c.map (atF hi));rw [show flipsU 0 (c.map (atF lo))=z1 from hz1,List.length_map] at hb1;rw [show flipsU 0 (c.map (atF hi))=z2 from hz2,List.length_map] at hb2;have q3:IntKind.i64.wrap (z1 - z2)=z1 - z2:=IntWalk.i64_in _ (by omega);have HBE:=ZZ (show betweenF c lo hi=z1 - z2 by unfold betweenF;rw [hz1,hz2]);have HZ1:=ZZ hz1;have HZ2:=ZZ hz2;have HN:=ZZ hn;have HPR:=ZZ (cB_of hc);have HM0:=ZZ hM0;have HM:=ZZ hM;have BLO:=ZZ blo;have BHI:=ZZ bhi;rw [HBE.out];have x1:=ab w (.cells #[.bool s1,.slice A1 k1 ca1,.slice B1 l1 cb1] 35);have x2:=ab (w.alloc (.cells #[.bool s1,.slice A1 k1 ca1,.slice B1 l1 cb1] 35)) (.cells #[.bool s2,.slice A2 k2 ca2,.slice B2 l2 cb2] 35);have r1:=(x2.block _ (lt_of_block (heap_alloc_new w (.cells #[.bool s1,.slice A1 k1 ca1,.slice B1 l1 cb1] 35)))).trans (heap_alloc_new w (.cells #[.bool s1,.slice A1 k1 ca1,.slice B1 l1 cb1] 35));have r2:=heap_alloc_new (w.alloc (.cells #[.bool s1,.slice A1 k1 ca1,.slice B1 l1 cb1] 35)) (.cells #[.bool s2,.slice A2 k2 ca2,.slice B2 l2 cb2] 35);rw [World.size_alloc] at r2;have EW:=ZZ (am x1 x2);have N1:=ZZ (hlo.mono EW.out);have N2:=ZZ (hhi.mono EW.out)
 have HP:=ZZ (h.mono EW.out);have R1:=ZZ r1;have R2:=ZZ r2;clear hz1 hz2 hb1 hb2 hn hc hM0 hM blo bhi x1 x2 r1 r2 h hlo hhi hnn
 go_enter Tryz.func65,Tryz.ntmps65
 go_upto_region 1 with (fail)
 generalize (w.alloc (.cells #[.bool s1,.slice A1 k1 ca1,.slice B1 l1 cb1] _)).alloc (.cells #[.bool s2,.slice A2 k2 ca2,.slice B2 l2 cb2] _)=W0 at *;obtain⟨ga,hga⟩:∃g,w.heap.size=g:=⟨_,rfl⟩;obtain⟨gb,hgb⟩:∃g,w.heap.size+1=g:=⟨_,rfl⟩;rw [hgb,hga]
 have HC:=ZZ (show ∀W,Ext W0 W→W.cell? ⟨ga,0,none⟩=some (.bool s1)∧W.cell? ⟨ga,1,none⟩=some (.slice A1 k1 ca1)∧W.cell? ⟨ga,2,none⟩=some (.slice B1 l1 cb1)∧W.cell? ⟨gb,0,none⟩=some (.bool s2)∧W.cell? ⟨gb,1,none⟩=some (.slice A2 k2 ca2)∧W.cell? ⟨gb,2,none⟩=some (.slice B2 l2 cb2) from fun W k=>by
  obtain⟨y0,y1,y2,-⟩:=aj ((k.block _ (lt_of_block R1.out)).trans R1.out);obtain⟨u0,u1,u2,-⟩:=aj ((k.block _ (lt_of_block R2.out)).trans R2.out);rw [←hgb,←hga];exact⟨y0,y1,y2,u0,u1,u2⟩)
 clear hga hgb R1 R2;have hun:undef=.tuple #[]:=rfl;refine wp_region_noPanic ?_;refine wp_region_held_drew (S:=fun W=>W.cell? ⟨ga,0,none⟩=some (.bool s1)∧W.cell? ⟨ga,1,none⟩=some (.slice A1 k1 ca1)∧W.cell? ⟨ga,2,none⟩=some (.slice B1 l1 cb1)∧W.cell? ⟨gb,0,none⟩=some (.bool s2)∧W.cell? ⟨gb,1,none⟩=some (.slice A2 k2 ca2)∧W.cell? ⟨gb,2,none⟩=some (.slice B2 l2 cb2)) (by kernel_rfl) (HC.out _ (ac _)) (fun hHeld=>?_);refine take_a 0 7 ?_;refine take_a 1 8 ?_;refine take_a 4 11 ?_;refine take_a 5 12 ?_;refine call_p (i:=2) (some 9) rfl rfl (by kernel_rfl) (fun K hK=>?_)
 go_simp
 go_at_call 117
 refine(at_c _ lo _ (N1.out.mono (ac _))).mono ?_;rintro e w4 ⟨rfl,hw4⟩;have SG:=ZZ (hw4 ▸ sgn_at M HM0.out HM.out lo BLO.out (N1.out.mono (ac W0)));have hx1:=ZZ (show Ext W0 w4 from by rw [hw4];exact am (ac _) (ab _ _));clear hw4
 try go_wp2_with fail
 refine hK.out _ _ (HC.out _ hx1.out) (fun hHeld=>?_);clear hK K
 try simp only [Act.put,lyA,lyB,lyC]
 refine call_p (i:=3) (some 10) rfl rfl (by kernel_rfl) (fun K hK=>?_)
 go_simp
 go_at_call 79
 refine(flips_p _ _ c (atF lo) (PreM M) HN.out HPR.out _ (HP.out.mono hx1.out) SG.out z1 HZ1.out).mono ?_;rintro e w5 ⟨rfl,k5⟩;have hx2:=ZZ (am hx1.out k5);clear k5 SG
 try go_wp2_with fail
 refine hK.out _ _ (HC.out _ hx2.out) (fun hHeld=>?_);clear hK K
 try simp only [Act.put,lyA,lyB,lyC]
 refine call_p (i:=6) (some 13) rfl rfl (by kernel_rfl) (fun K hK=>?_)
 go_simp
 go_at_call 117
 refine(at_c _ hi _ (N2.out.mono hx2.out)).mono ?_;rintro e w6 ⟨rfl,hw6⟩;have SG:=ZZ (hw6 ▸ sgn_at M HM0.out HM.out hi BHI.out (N2.out.mono hx2.out));have hx3:=ZZ (show Ext W0 w6 from by rw [hw6];exact am hx2.out (ab _ _));clear hw6
 try go_wp2_with fail
 refine hK.out _ _ (HC.out _ hx3.out) (fun hHeld=>?_);clear hK K
 try simp only [Act.put,lyA,lyB,lyC]
 refine call_p (i:=7) (some 14) rfl rfl (by kernel_rfl) (fun K hK=>?_)
 go_simp
 go_at_call 79
 refine(flips_p _ _ c (atF hi) (PreM M) HN.out HPR.out _ (HP.out.mono hx3.out) SG.out z2 HZ2.out).mono ?_;rintro e w7 ⟨rfl,k7⟩;have hx4:=ZZ (am hx3.out k7);clear k7 SG
 try go_wp2_with fail
 refine hK.out _ _ (HC.out _ hx4.out) (fun hHeld=>?_);clear hK K
 try simp only [Act.put,lyA,lyB,lyC]
 refine take_a 8 15 ?_;refine take_a 9 6 ?_;refine wpAnyH_done (by kernel_rfl) ?_ _;refine NoPanic.normal ?_;go_wp2_with fail;go_ret;exact⟨rfl,am EW.out hx4.out⟩
def ownF (p:List Rat):List (List Rat):=chainF (simpleF p) (derivF (simpleF p))
def ownOk (M:Nat) (p:List Rat):Bool:=simpleOk M p && smB M (simpleF p) && chainOk M (simpleF p) (derivF (simpleF p)) && cB M (ownF p)
theorem chain_len (p q:List Rat):(chainF p q).length≤p.length+q.length+2:=by
 have:∀(k:Nat) (a b:List Rat),(chainU k a b).length≤k:=by
  intro k
  induction k with
  | zero=>intro a b;exact Nat.le_refl _
  | succ k ih=>
   intro a b;unfold chainU
   split
   ·exact Nat.zero_le _
   ·split
    ·simp
    ·rw [List.length_cons];exact Nat.succ_le_succ (ih _ _)
 exact this _ _ _
theorem simple_len (p:List Rat):(simpleF p).length≤p.length+1:=(div_len _ _).1
theorem own_len (p:List Rat):(ownF p).length≤2*p.length+4:=by
 have h1:=chain_len (simpleF p) (derivF (simpleF p));have h2:=simple_len p;have h3:=deriv_len (simpleF p);unfold ownF;omega
theorem own_p (M:Nat) (hM0:0<M) (hM:M≤268435456) (vp:Value) (p:List Rat) (hlp:p.length≤90000) (w:World) (hp:Pl w vp p) (hok:ownOk M p=true):Calls Tryz.prog 63 #[vp] w fun e w'=>∃v,e=.returned v∧PlL w' v (ownF p)∧Ext w w':=by
 unfold ownOk at hok;rw [Bool.and_eq_true,Bool.and_eq_true,Bool.and_eq_true] at hok;obtain⟨⟨⟨h1,h2⟩,h3⟩,-⟩:=hok;have HP:=ZZ hp;have HLP:=ZZ hlp;have H1:=ZZ h1;have H2:=ZZ (sm_of h2);have H3:=ZZ h3;have HM0:=ZZ hM0;have HM:=ZZ hM;have LS:=ZZ (show (simpleF p).length≤100000 by have:=simple_len p;omega);clear hp hlp h1 h2 h3 hM0 hM
 go_enter Tryz.func63,Tryz.ntmps63
 go_wp2_with fail;refine(simple_p M HM0.out HM.out _ p (by have:=HLP.out;omega) _ HP.out H1.out).mono ?_
 rintro e w3 ⟨v3,rfl,h3,k3⟩;have G3:=ZZ h3;have K3:=ZZ k3;clear h3 k3;go_wp2_with fail;refine(deriv_p M HM0.out (by have:=HM.out;omega) _ (simpleF p) (by have:=LS.out;omega) _ G3.out H2.out).mono ?_;rintro e w4 ⟨v4,rfl,h4,k4⟩;have G4:=ZZ h4.pl;have K4:=ZZ (am K3.out k4);have G3b:=ZZ (G3.out.mono k4);clear h4 k4;go_wp2_with fail;refine(chain_p M HM0.out HM.out _ _ (simpleF p) (derivF (simpleF p)) LS.out (Nat.le_trans (deriv_len _) LS.out) _ G3b.out G4.out H3.out).mono ?_;rintro e w5 ⟨v5,rfl,h5,k5⟩;have G5:=ZZ h5;have K5:=ZZ (am K4.out k5);clear h5 k5;go_wp2_with fail;go_ret;exact⟨_,rfl,G5.out,K5.out⟩
end Go.Proofs.YtjamgccgoapbeaaGreatDoor
set_option linter.unusedVariables false
set_option maxRecDepth 100000
set_option maxHeartbeats 64000000
namespace Go.Proofs.YtjamgccgoapbeaaGreatDoor
open Go.RowKit
theorem sign_bnd {x:Rat} {s:Int} (h:x.num.sign=s):s = -1∨s=0∨s=1:=by
 rcases Int.lt_trichotomy x.num 0 with e|e|e
 ·rw [Int.sign_eq_neg_one_of_neg e] at h;omega
 ·rw [e] at h;simp at h;omega
 ·rw [Int.sign_eq_one_of_pos e] at h;omega
theorem bn_neg (x:Rat):bn (-x)=bn x:=by
 unfold bn;rw [Rat.neg_num,Rat.neg_den]
 by_cases h:x.num=0
 ·rw [if_pos h,if_pos (by omega)]
 ·rw [if_neg h,if_neg (by omega)]
theorem Nr.flip {W:World} {s:Int} {vt vb:Value} {x:Rat} (hs:x.num.sign=s) (h1:Wr W vt x.num.natAbs) (h2:Wr W vb (bn x)):Nr W (.agg #[.int .i64 (-s),vt,vb]) (-x):=
 ⟨-s,vt,vb,rfl,by rw [Rat.neg_num,Int.sign_neg,hs],by rw [Rat.neg_num,Int.natAbs_neg];exact h1,by rw [bn_neg];exact h2⟩
theorem sign_n (vx:Value) (x:Rat) (s0:Int) (hs0:x.num.sign=s0) (w:World) (hx:Nr w vx x):Calls Tryz.prog 86 #[vx] w fun e w'=>e=.returned (.int .i64 s0)∧Ext w w':=by
 obtain⟨s,A,k,ca,B,l,cb,rfl,hsg,hxt,hxb⟩:=hx.form;have hsb:=sign_bnd hsg;have Hx:=ZZ hx;have HXT:=ZZ hxt;have HXB:=ZZ hxb;have HSG:=ZZ hsg;obtain⟨hS,hw1⟩:=setupR1 w (.int .i64 s) (.slice A k ca) (.slice B l cb);have HS:=ZZ hS;have K0:=ZZ hw1;have R0:=ZZ (ae (w.alloc (.cells #[.int .i64 s,.slice A k ca,.slice B l cb] 62)));clear hx hxt hxb hS hw1 hsg;obtain rfl:s=s0:=HSG.out.symm.trans hs0;clear hs0
 go_enter Tryz.func86,Tryz.ntmps86
 go_wp2_with fail;go_ret
 exact⟨rfl,ab _ _⟩
theorem sr_small {n:Nat} (h:n<2 ^ 64):Sr n:=sr_bits h (by decide)
theorem int_n_neg (k:Nat) (h0:0<k) (hk:k≤9223372036854775808) (w:World):Calls Tryz.prog 89 #[.int .i64 (-(k:Int))] w fun e w'=>∃v,e=.returned v∧Nr w' v (((-(k:Int):Int)):Rat)∧Ext w w':=by
 have Hr:=ZZ (show rat true k 1=((-(k:Int):Int):Rat) by have:=rat_int (-(k:Int));rw [show decide (-(k:Int)<0)=true by simp;omega,Int.natAbs_neg,Int.natAbs_natCast] at this;exact this);obtain⟨h,hh⟩:∃h,h=k / 2:=⟨_,rfl⟩;obtain⟨r,hr⟩:∃r,r=k - 2*h:=⟨_,rfl⟩;have HK:=ZZ (show h+h+r=k by omega);have SH:=ZZ (sr_small (show h<2 ^ 64 by omega));have S2:=ZZ (sr_small (show h+h<2 ^ 64 by omega));have SR:=ZZ (sr_small (show r<2 ^ 64 by omega));have LK:=ZZ (show (dr k).length≤1073741824 from Nat.le_trans (dr_bits (show k<2 ^ 64 by omega)) (by decide));have HB:=ZZ (show h<9223372036854775808 by omega);have RB:=ZZ (show r<9223372036854775808 by omega);have t0:decide (-(k:Int)<0)=true:=by simp;omega
 have t0':decide (0<k)=true:=by simp;omega
 have q1:Int.tdiv (-(k:Int)) 2 = -(h:Int):=by rw [Int.neg_tdiv,Int.tdiv_eq_ediv_of_nonneg (by omega)];omega
 have w1:IntKind.i64.wrap (-(h:Int)) = -(h:Int):=IntWalk.i64_in _ (by omega);have w2:IntKind.i64.wrap (h:Int)=(h:Int):=IntWalk.i64_in _ (by omega);have w3:IntKind.i64.wrap (2*-(h:Int)) = -(2*(h:Int)):=(IntWalk.i64_in _ (by omega)).trans (by omega);have w4:IntKind.i64.wrap (-(k:Int)+2*(h:Int)) = -(r:Int):=(IntWalk.i64_in _ (by omega)).trans (by omega);have w5:IntKind.i64.wrap (r:Int)=(r:Int):=IntWalk.i64_in _ (by omega);have R0:=ZZ (ae (w.alloc (.cells #[.int .i64 0,.slice none 0 0,.slice none 0 0] 62)));have Z0:=ZZ (fun W (h:Ext (w.alloc (.cells #[.int .i64 0,.slice none 0 0,.slice none 0 0] 62)) W)=>rowR h);have K0:=ZZ (ab w (.cells #[.int .i64 0,.slice none 0 0,.slice none 0 0] 62));clear hh hr h0 hk
 go_enter Tryz.func89,Tryz.ntmps89
 go_wp2_with fail;refine(whole_r h HB.out _).mono ?_
 rintro e wa ⟨v1,rfl,h2,k2⟩;obtain⟨Pv1,pv1,cv1,rfl⟩:=h2.form';have G1:=ZZ h2;have K1:=ZZ (am R0.out k2);clear h2 k2;go_wp2_with fail;refine(whole_r h HB.out _).mono ?_;rintro e wb ⟨v2,rfl,h2,k2⟩;obtain⟨Pv2,pv2,cv2,rfl⟩:=h2.form';have G2:=ZZ h2;have G1':=ZZ (G1.out.mono k2);have K2:=ZZ (am K1.out k2);clear h2 k2;go_wp2_with fail;refine(plus_r _ _ h h _ G1'.out G2.out SH.out SH.out).mono ?_;rintro e wc ⟨v3,rfl,h2,k2⟩;obtain⟨Pv3,pv3,cv3,rfl⟩:=h2.form';have G3:=ZZ h2;have K3:=ZZ (am K2.out k2);clear h2 k2;go_wp2_with fail;refine(whole_r r RB.out _).mono ?_;rintro e wd ⟨v4,rfl,h2,k2⟩;obtain⟨Pv4,pv4,cv4,rfl⟩:=h2.form';have G4:=ZZ h2;have G3':=ZZ (G3.out.mono k2);have K4:=ZZ (am K3.out k2);clear h2 k2;go_wp2_with fail;refine(plus_r _ _ (h+h) r _ G3'.out G4.out S2.out SR.out).mono ?_;rintro e we ⟨v5,rfl,h2,k2⟩;obtain⟨Pv5,pv5,cv5,rfl⟩:=h2.form';have G5:=ZZ h2;have K5:=ZZ (am K4.out k2);clear h2 k2;rw [HK.out] at G5;go_wp2_with fail;refine(one_r _).mono ?_;rintro e wf ⟨v6,rfl,h2,k2⟩;obtain⟨Pv6,pv6,cv6,rfl⟩:=h2.form';have G6:=ZZ h2;have G5':=ZZ (G5.out.mono k2);have KP:=ZZ (am K5.out k2);clear h2 k2;go_wp2_with fail;refine(made_r true (-1) rfl _ _ k 1 (by omega) _ G5'.out G6.out LK.out (by rw [dr_one];simp)).mono ?_;rintro e w7 ⟨V7,rfl,h2,k2⟩;obtain⟨s7,A7,k7,c7,B7,l7,d7,rfl,-⟩:=h2.form;have H7:=ZZ h2;have K7:=ZZ (am KP.out k2);clear h2 k2;obtain⟨z0,z1,z2,f0,f1,f2⟩:=ak (Z0.out _ K7.out);go_wp2_with fail
 refine bodyPost_ret (v:=.agg #[.int .i64 s7,.slice A7 k7 c7,.slice B7 l7 d7]) (by simp [results,Tryz.f89];go_simp) rfl ?_;refine⟨_,rfl,?_,av (am K0.out K7.out) (Nat.le_refl _) _ _ _⟩;rw [←Hr.out];exact Nr.put_z H7.out (Z0.out _ K7.out) _ _ _
theorem int_n_pos (k:Nat) (hk:k<9223372036854775808) (w:World):Calls Tryz.prog 89 #[.int .i64 (k:Int)] w fun e w'=>∃v,e=.returned v∧Nr w' v ((k:Int):Rat)∧Ext w w':=by
 have Hr:=ZZ (show rat false k 1=((k:Int):Rat) by have:=rat_int (k:Int);rw [show decide ((k:Int)<0)=false by simp,Int.natAbs_natCast] at this;exact this);have LK:=ZZ (show (dr k).length≤1073741824 from Nat.le_trans (dr_bits (show k<2 ^ 64 by omega)) (by decide));have HK:=ZZ hk;have t0:decide ((k:Int)<0)=false:=by simp
 have R0:=ZZ (ae (w.alloc (.cells #[.int .i64 0,.slice none 0 0,.slice none 0 0] 62)));have Z0:=ZZ (fun W (h:Ext (w.alloc (.cells #[.int .i64 0,.slice none 0 0,.slice none 0 0] 62)) W)=>rowR h);have K0:=ZZ (ab w (.cells #[.int .i64 0,.slice none 0 0,.slice none 0 0] 62));clear hk
 go_enter Tryz.func89,Tryz.ntmps89
 go_wp2_with fail;refine(whole_r k HK.out _).mono ?_
 rintro e w1 ⟨v1,rfl,h2,k2⟩;obtain⟨Pv1,pv1,cv1,rfl⟩:=h2.form';have G1:=ZZ h2;have K1:=ZZ (am R0.out k2);clear h2 k2;go_wp2_with fail;refine(one_r _).mono ?_;rintro e w2 ⟨v2,rfl,h2,k2⟩;obtain⟨Pv2,pv2,cv2,rfl⟩:=h2.form';have G2:=ZZ h2;have G1':=ZZ (G1.out.mono k2);have KP:=ZZ (am K1.out k2);clear h2 k2;go_wp2_with fail;refine(made_r false 1 rfl _ _ k 1 (by omega) _ G1'.out G2.out LK.out (by rw [dr_one];simp)).mono ?_;rintro e w7 ⟨V7,rfl,h2,k2⟩;obtain⟨s7,A7,k7,c7,B7,l7,d7,rfl,-⟩:=h2.form;have H7:=ZZ h2;have K7:=ZZ (am KP.out k2);clear h2 k2;obtain⟨z0,z1,z2,f0,f1,f2⟩:=ak (Z0.out _ K7.out);go_wp2_with fail;refine bodyPost_ret (v:=.agg #[.int .i64 s7,.slice A7 k7 c7,.slice B7 l7 d7]) (by simp [results,Tryz.f89];go_simp) rfl ?_;refine⟨_,rfl,?_,av (am K0.out K7.out) (Nat.le_refl _) _ _ _⟩;rw [←Hr.out];exact Nr.put_z H7.out (Z0.out _ K7.out) _ _ _
theorem int_n (z:Int) (h1:-9223372036854775808≤z) (h2:z<9223372036854775808) (w:World):Calls Tryz.prog 89 #[.int .i64 z] w fun e w'=>∃v,e=.returned v∧Nr w' v (z:Rat)∧Ext w w':=by
 rcases(show z<0∨0≤z by omega) with h|h
 ·obtain⟨k,rfl⟩:∃k:Nat,z = -(k:Int):=⟨z.natAbs,by omega⟩
  exact int_n_neg k (by omega) (by omega) w
 ·obtain⟨k,rfl⟩:∃k:Nat,z=(k:Int):=⟨z.toNat,by omega⟩
  exact int_n_pos k (by omega) w
end Go.Proofs.YtjamgccgoapbeaaGreatDoor
set_option linter.unusedVariables false
set_option maxRecDepth 100000
set_option maxHeartbeats 64000000
namespace Go.Proofs.YtjamgccgoapbeaaGreatDoor
open Go.RowKit
theorem ord_bnd (m n:Nat):ordN m n = -1∨ordN m n=0∨ordN m n=1:=by
 unfold ordN;split
 ·exact .inl rfl
 ·split
  ·exact .inr (.inr rfl)
  ·exact .inr (.inl rfl)
theorem ord_neg (m n:Nat):ordN m n<0↔m<n:=by
 unfold ordN;split
 ·simp;omega
 ·split <;> simp <;> omega
theorem ord_pos (m n:Nat):0<ordN m n↔n<m:=by
 unfold ordN;split
 ·simp;omega
 ·split <;> simp <;> omega
theorem order_e (va vb:Value) (m n:Nat) (c:Int) (hc:ordN m n=c) (w:World) (ha:Wr w va m) (hb:Wr w vb n) (sa:Sr m) (sb:Sr n):Calls Tryz.prog 138 #[va,vb] w fun e w'=>e=.returned (.int .i64 c)∧Ext w w':=by
 refine(order_r va vb m n w ha hb sa sb).mono ?_;rintro e w' ⟨rfl,k,rfl⟩;exact⟨by rw [hc],aA _ _⟩
theorem cmp_diff {x y:Rat} {s1 s2:Int} (h1:x.num.sign=s1) (h2:y.num.sign=s2):(s1<s2→cmpQ x y = -1)∧(s2<s1→cmpQ x y=1)∧(s1=s2→s1=0→cmpQ x y=0):=by
 have b1:=sign_bnd h1;have b2:=sign_bnd h2;refine⟨fun h=>?_,fun h=>?_,fun h h0=>?_⟩
 ·rw [cmpQ_sign x y (by omega),h1,h2];omega
 ·rw [cmpQ_sign x y (by omega),h1,h2];omega
 ·have e1:x=0:=Rat.num_eq_zero.1 (Int.sign_eq_zero_iff_zero.1 (h1.trans h0))
  have e2:y=0:=Rat.num_eq_zero.1 (Int.sign_eq_zero_iff_zero.1 (h2.trans (h.symm.trans h0)));rw [e1,e2];rfl
theorem cmp_prod {x y:Rat} {s:Int} (h1:x.num.sign=s) (h2:y.num.sign=s):cmpQ x y=s*ordN (x.num.natAbs*y.den) (y.num.natAbs*x.den):=by
 have h:=cmpQ_same x y (ordN (x.num.natAbs*y.den) (y.num.natAbs*x.den)) (h1.trans h2.symm) (ord_neg _ _) (ord_pos _ _);rw [h,h1]
 have:=ord_bnd (x.num.natAbs*y.den) (y.num.natAbs*x.den)
 congr 1;omega
theorem cmp_n_lt (vx vy:Value) (x y:Rat) (w:World) (hx:Nr w vx x) (hy:Nr w vy y) (h:x.num.sign<y.num.sign):Calls Tryz.prog 187 #[vx,vy] w fun e w'=>e=.returned (.int .i64 (cmpQ x y))∧Ext w w':=by
 obtain⟨s1,A,k,ca,B,l,cb,rfl,hs1,hxt,hxb⟩:=hx.form;obtain⟨s2,C,m,cc,D,n,cd,rfl,hs2,hyt,hyb⟩:=hy.form;obtain⟨hS,hZ,hw1,hw2,hsz,hsz1⟩:=setupR2 w (.int .i64 s1) (.slice A k ca) (.slice B l cb) (.int .i64 s2) (.slice C m cc) (.slice D n cd);have HS:=ZZ hS;have HZ:=ZZ hZ;have HW1:=ZZ hw1;have HW2:=ZZ hw2;have Hsz1:=ZZ hsz1;have Hx:=ZZ hx;have Hy:=ZZ hy;have HXT:=ZZ hxt;have HYT:=ZZ hyt;have HS1:=ZZ hs1;have HS2:=ZZ hs2
 have HC:=ZZ (show cmpQ x y = -1 by
  have hd:=cmp_diff hs1 hs2;rw [hs1,hs2] at h;exact hd.1 h)
 rw [hs1,hs2] at h;have hc0:=hS _ (ae _);have t1:decide (s1<s2)=true:=by simp;omega
 clear hx hy hxt hxb hyt hyb hS hZ hw1 hw2 hsz hsz1 hs1 hs2;clear h
 go_enter Tryz.func187,Tryz.ntmps187
 go_wp2_with fail;go_ret
 rw [HC.out];exact⟨rfl,HW1.out⟩
theorem cmp_n_gt (vx vy:Value) (x y:Rat) (w:World) (hx:Nr w vx x) (hy:Nr w vy y) (h:y.num.sign<x.num.sign):Calls Tryz.prog 187 #[vx,vy] w fun e w'=>e=.returned (.int .i64 (cmpQ x y))∧Ext w w':=by
 obtain⟨s1,A,k,ca,B,l,cb,rfl,hs1,hxt,hxb⟩:=hx.form;obtain⟨s2,C,m,cc,D,n,cd,rfl,hs2,hyt,hyb⟩:=hy.form;obtain⟨hS,hZ,hw1,hw2,hsz,hsz1⟩:=setupR2 w (.int .i64 s1) (.slice A k ca) (.slice B l cb) (.int .i64 s2) (.slice C m cc) (.slice D n cd);have HS:=ZZ hS;have HZ:=ZZ hZ;have HW1:=ZZ hw1;have HW2:=ZZ hw2;have Hsz1:=ZZ hsz1;have Hx:=ZZ hx;have Hy:=ZZ hy;have HXT:=ZZ hxt;have HYT:=ZZ hyt;have HS1:=ZZ hs1;have HS2:=ZZ hs2
 have HC:=ZZ (show cmpQ x y=1 by
  have hd:=cmp_diff hs1 hs2;rw [hs1,hs2] at h;exact hd.2.1 h)
 rw [hs1,hs2] at h;have hc0:=hS _ (ae _);have t1:decide (s1<s2)=false:=by simp;omega
 have t2:decide (s2<s1)=true:=by simp;omega
 clear hx hy hxt hxb hyt hyb hS hZ hw1 hw2 hsz hsz1 hs1 hs2;clear h
 go_enter Tryz.func187,Tryz.ntmps187
 go_wp2_with fail;go_ret
 rw [HC.out];exact⟨rfl,HW1.out⟩
theorem cmp_n_zero (vx vy:Value) (x y:Rat) (w:World) (hx:Nr w vx x) (hy:Nr w vy y) (h:x.num.sign=y.num.sign) (h0:x.num.sign=0):Calls Tryz.prog 187 #[vx,vy] w fun e w'=>e=.returned (.int .i64 (cmpQ x y))∧Ext w w':=by
 obtain⟨s1,A,k,ca,B,l,cb,rfl,hs1,hxt,hxb⟩:=hx.form;obtain⟨s2,C,m,cc,D,n,cd,rfl,hs2,hyt,hyb⟩:=hy.form;obtain⟨hS,hZ,hw1,hw2,hsz,hsz1⟩:=setupR2 w (.int .i64 s1) (.slice A k ca) (.slice B l cb) (.int .i64 s2) (.slice C m cc) (.slice D n cd);have HS:=ZZ hS;have HZ:=ZZ hZ;have HW1:=ZZ hw1;have HW2:=ZZ hw2;have Hsz1:=ZZ hsz1;have Hx:=ZZ hx;have Hy:=ZZ hy;have HXT:=ZZ hxt;have HYT:=ZZ hyt;have HS1:=ZZ hs1;have HS2:=ZZ hs2
 have HC:=ZZ (show cmpQ x y=0 by
  have hd:=cmp_diff hs1 hs2;rw [hs1,hs2] at h;exact hd.2.2 h (hs1.symm.trans h0))
 rw [hs1,hs2] at h;have hc0:=hS _ (ae _);rw [hs1] at h0;subst h;subst h0;clear hx hy hxt hxb hyt hyb hS hZ hw1 hw2 hsz hsz1 hs1 hs2
 go_enter Tryz.func187,Tryz.ntmps187
 go_wp2_with fail;go_ret
 rw [HC.out];exact⟨rfl,HW1.out⟩
theorem cmp_n_same (M:Nat) (hM:M≤134217728) (vx vy:Value) (x y:Rat) (w:World) (hx:Nr w vx x) (hy:Nr w vy y) (bx:Bq M x) (by_:Bq M y) (h:x.num.sign=y.num.sign) (h0:x.num.sign≠0):Calls Tryz.prog 187 #[vx,vy] w fun e w'=>e=.returned (.int .i64 (cmpQ x y))∧Ext w w':=by
 obtain⟨s1,A,k,ca,B,l,cb,rfl,hs1,hxt,hxb⟩:=hx.form;obtain⟨s2,C,m,cc,D,n,cd,rfl,hs2,hyt,hyb⟩:=hy.form;obtain⟨hS,hZ,hw1,hw2,hsz,hsz1⟩:=setupR2 w (.int .i64 s1) (.slice A k ca) (.slice B l cb) (.int .i64 s2) (.slice C m cc) (.slice D n cd);have HS:=ZZ hS;have HZ:=ZZ hZ;have HW1:=ZZ hw1;have HW2:=ZZ hw2;have Hsz1:=ZZ hsz1;have Hx:=ZZ hx;have Hy:=ZZ hy;have HXT:=ZZ hxt;have HYT:=ZZ hyt;have HS1:=ZZ hs1;have HS2:=ZZ hs2;have HXB:=ZZ hxb;have HYB:=ZZ hyb;have hx0:x≠0:=fun e=>h0 (by rw [e];rfl);have hy0:y≠0:=fun e=>h0 (by rw [h,e];rfl);rw [bn_ne hx0] at HXB;rw [bn_ne hy0] at HYB;rw [hs1,hs2] at h;rw [hs1] at h0;subst h;obtain⟨c,hc⟩:∃c,ordN (x.num.natAbs*y.den) (y.num.natAbs*x.den)=c:=⟨_,rfl⟩;have hcp:=cmp_prod hs1 hs2;rw [hc] at hcp;obtain⟨d,hd⟩:∃d,s1*c=d:=⟨_,rfl⟩
 have hwr:IntKind.i64.wrap (s1*c)=d:=by
  rw [hd];apply IntWalk.i64_in;have b1:=sign_bnd hs1;have b2:=ord_bnd (x.num.natAbs*y.den) (y.num.natAbs*x.den);rw [hc] at b2
  rcases b1 with e|e|e <;> subst e <;> omega
 have HC:=ZZ hc;have HD:=ZZ (hcp.trans hd);have hz0:(s1 == 0)=false:=by rw [beq_eq_false_iff_ne];exact h0
 have S3:=ZZ (sr_bits bx.1 (by omega));have S4:=ZZ (sr_bits bx.2 (by omega));have S5:=ZZ (sr_bits by_.1 (by omega));have S6:=ZZ (sr_bits by_.2 (by omega));have S7:=ZZ (sr_bits (lt_mul bx.1 by_.2) (by omega));have S8:=ZZ (sr_bits (lt_mul by_.1 bx.2) (by omega));clear hx hy hxt hxb hyt hyb hS hZ hw1 hw2 hsz hsz1 hs1 hs2;clear h0 bx by_ hM hx0 hy0 hc hcp hd
 go_enter Tryz.func187,Tryz.ntmps187
 go_upto_region 7 with (fail)
 generalize World.alloc (World.alloc w (.cells #[.int .i64 s1,.slice A k ca,.slice B l cb] _)) (.cells #[.int .i64 s1,.slice C m cc,.slice D n cd] _)=W2 at *;generalize hg0:w.heap.size=g0 at *;clear hg0;have hS0:=HS.out W2 (ae _);have hx1:=ZZ (ac W2)
 go_region_held3 (fun W=>W.cell? ⟨g0,0,none⟩=some (.int .i64 s1)∧W.cell? ⟨g0,1,none⟩=some (.slice A k ca)∧W.cell? ⟨g0,2,none⟩=some (.slice B l cb)∧W.cell? ⟨g0+1,0,none⟩=some (.int .i64 s1)∧W.cell? ⟨g0+1,1,none⟩=some (.slice C m cc)∧W.cell? ⟨g0+1,2,none⟩=some (.slice D n cd))
  (first
   | exact HS.out _ hx4.out
   | exact HS.out _ hx3.out
   | exact HS.out _ hx2.out
   | exact HS.out _ hx1.out)
  (first
   |(have _q:=hx3
     go_at_call 138
     refine(order_e _ _ _ _ c HC.out _ H3'.out H4.out S7.out S8.out).mono ?_;clear _q;rintro e w3 ⟨rfl,k4⟩;have hx4:=ZZ (am hx3.out k4);clear k4)
   |(have _q:=hx2
     go_at_call 136
     refine(times_r _ _ y.num.natAbs x.den _ (HYT.out.mono (am HW1.out hx2.out)) (HXB.out.mono (am HW1.out hx2.out)) S5.out S4.out).mono ?_;clear _q;rintro e w2 ⟨v2,rfl,h4,k3⟩;obtain⟨P2,p2,c2,rfl⟩:=h4.form';have H4:=ZZ h4;have H3':=ZZ (H3.out.mono k3);have hx3:=ZZ (am hx2.out k3);clear h4 k3)
   |(have _q:=hx1
     go_at_call 136
     refine(times_r _ _ x.num.natAbs y.den _ (HXT.out.mono (am HW1.out hx1.out)) (HYB.out.mono (am HW1.out hx1.out)) S3.out S6.out).mono ?_;clear _q;rintro e w1 ⟨v1,rfl,h3,k2⟩;obtain⟨P1,p1,c1,rfl⟩:=h3.form';have H3:=ZZ h3;have hx2:=ZZ (am hx1.out k2);clear h3 k2))
 all_goals
  go_wp2_with fail;go_ret
  rw [HD.out];exact⟨rfl,am HW1.out hx4.out⟩
theorem cmp_n (M:Nat) (hM:M≤134217728) (vx vy:Value) (x y:Rat) (w:World) (hx:Nr w vx x) (hy:Nr w vy y) (bx:Bq M x) (by_:Bq M y):Calls Tryz.prog 187 #[vx,vy] w fun e w'=>e=.returned (.int .i64 (cmpQ x y))∧Ext w w':=by
 rcases Int.lt_trichotomy x.num.sign y.num.sign with h|h|h
 ·exact cmp_n_lt vx vy x y w hx hy h
 ·by_cases h0:x.num.sign=0
  ·exact cmp_n_zero vx vy x y w hx hy h h0
  ·exact cmp_n_same M hM vx vy x y w hx hy bx by_ h h0
 ·exact cmp_n_gt vx vy x y w hx hy h
theorem cmp_e (M:Nat) (hM:M≤134217728) (vx vy:Value) (x y:Rat) (c:Int) (hc:cmpQ x y=c) (w:World) (hx:Nr w vx x) (hy:Nr w vy y) (bx:Bq M x) (by_:Bq M y):Calls Tryz.prog 187 #[vx,vy] w fun e w'=>e=.returned (.int .i64 c)∧Ext w w':=by
 subst hc;exact cmp_n M hM vx vy x y w hx hy bx by_
theorem min_n_first (M:Nat) (hM:M≤134217728) (vx vy:Value) (x y:Rat) (c:Int) (hc:cmpQ x y=c) (hcc:decide (c≤0)=true) (w:World) (hx:Nr w vx x) (hy:Nr w vy y) (bx:Bq M x) (by_:Bq M y):Calls Tryz.prog 173 #[vx,vy] w fun e w'=>e=.returned vx∧Ext w w':=by
 obtain⟨s1,A,k,ca,B,l,cb,rfl,hs1,hxt,hxb⟩:=hx.form;obtain⟨s2,C,m,cc,D,n,cd,rfl,hs2,hyt,hyb⟩:=hy.form;obtain⟨hS,hZ,hw1,hw2,hsz,hsz1⟩:=setupR2 w (.int .i64 s1) (.slice A k ca) (.slice B l cb) (.int .i64 s2) (.slice C m cc) (.slice D n cd);have HS:=ZZ hS;have HZ:=ZZ hZ;have HW1:=ZZ hw1;have HW2:=ZZ hw2;have Hsz1:=ZZ hsz1;have Hx:=ZZ hx;have Hy:=ZZ hy;have HXT:=ZZ hxt;have HYT:=ZZ hyt;have HS1:=ZZ hs1;have HS2:=ZZ hs2;have BX:=ZZ bx;have BY:=ZZ by_;have HM:=ZZ hM;have HC:=ZZ hc;have hc0:=hS _ hw2;clear hx hy hxt hxb hyt hyb hS hZ hw1 hw2 hsz hsz1 hs1 hs2;clear bx by_ hM hc
 go_enter Tryz.func173,Tryz.ntmps173
 go_wp2_with fail;generalize World.alloc (World.alloc (World.alloc w (.cells #[.int .i64 s1,.slice A k ca,.slice B l cb] _)) (.cells #[.int .i64 s2,.slice C m cc,.slice D n cd] _)) _=W2 at *
 generalize World.alloc (World.alloc w (.cells #[.int .i64 s1,.slice A k ca,.slice B l cb] _)) (.cells #[.int .i64 s2,.slice C m cc,.slice D n cd] _)=W1 at *;generalize hg0:w.heap.size=g0 at *;have Hsz:=ZZ (show w.heap.size≤g0+1+1 by omega);clear hg0;have hww:=ZZ (am HW1.out HW2.out);refine(cmp_e M HM.out _ _ x y c HC.out _ (Hx.out.mono hww.out) (Hy.out.mono hww.out) BX.out BY.out).mono ?_;rintro e w3 ⟨rfl,k4⟩;have K7:=ZZ k4;obtain⟨a0,a1,a2,a3,a4,a5⟩:=HS.out _ (am HW2.out k4);have hz:=HZ.out _ k4;obtain⟨z0,z1,z2,f0,f1,f2⟩:=ak hz;have Hz:=ZZ hz;clear k4 hz hc0;go_wp2_with fail;refine bodyPost_ret (v:=.agg #[.int .i64 s1,.slice A k ca,.slice B l cb]) (by simp [results,Tryz.f173];go_simp) rfl ?_;exact⟨rfl,av (am hww.out K7.out) Hsz.out _ _ _⟩
theorem min_n_second (M:Nat) (hM:M≤134217728) (vx vy:Value) (x y:Rat) (c:Int) (hc:cmpQ x y=c) (hcc:decide (c≤0)=false) (w:World) (hx:Nr w vx x) (hy:Nr w vy y) (bx:Bq M x) (by_:Bq M y):Calls Tryz.prog 173 #[vx,vy] w fun e w'=>e=.returned vy∧Ext w w':=by
 obtain⟨s1,A,k,ca,B,l,cb,rfl,hs1,hxt,hxb⟩:=hx.form;obtain⟨s2,C,m,cc,D,n,cd,rfl,hs2,hyt,hyb⟩:=hy.form;obtain⟨hS,hZ,hw1,hw2,hsz,hsz1⟩:=setupR2 w (.int .i64 s1) (.slice A k ca) (.slice B l cb) (.int .i64 s2) (.slice C m cc) (.slice D n cd);have HS:=ZZ hS;have HZ:=ZZ hZ;have HW1:=ZZ hw1;have HW2:=ZZ hw2;have Hsz1:=ZZ hsz1;have Hx:=ZZ hx;have Hy:=ZZ hy;have HXT:=ZZ hxt;have HYT:=ZZ hyt;have HS1:=ZZ hs1;have HS2:=ZZ hs2;have BX:=ZZ bx;have BY:=ZZ by_;have HM:=ZZ hM;have HC:=ZZ hc;have hc0:=hS _ hw2;clear hx hy hxt hxb hyt hyb hS hZ hw1 hw2 hsz hsz1 hs1 hs2;clear bx by_ hM hc
 go_enter Tryz.func173,Tryz.ntmps173
 go_wp2_with fail;generalize World.alloc (World.alloc (World.alloc w (.cells #[.int .i64 s1,.slice A k ca,.slice B l cb] _)) (.cells #[.int .i64 s2,.slice C m cc,.slice D n cd] _)) _=W2 at *
 generalize World.alloc (World.alloc w (.cells #[.int .i64 s1,.slice A k ca,.slice B l cb] _)) (.cells #[.int .i64 s2,.slice C m cc,.slice D n cd] _)=W1 at *;generalize hg0:w.heap.size=g0 at *;have Hsz:=ZZ (show w.heap.size≤g0+1+1 by omega);clear hg0;have hww:=ZZ (am HW1.out HW2.out);refine(cmp_e M HM.out _ _ x y c HC.out _ (Hx.out.mono hww.out) (Hy.out.mono hww.out) BX.out BY.out).mono ?_;rintro e w3 ⟨rfl,k4⟩;have K7:=ZZ k4;obtain⟨a0,a1,a2,a3,a4,a5⟩:=HS.out _ (am HW2.out k4);have hz:=HZ.out _ k4;obtain⟨z0,z1,z2,f0,f1,f2⟩:=ak hz;have Hz:=ZZ hz;clear k4 hz hc0;go_wp2_with fail;refine bodyPost_ret (v:=.agg #[.int .i64 s2,.slice C m cc,.slice D n cd]) (by simp [results,Tryz.f173];go_simp) rfl ?_;exact⟨rfl,av (am hww.out K7.out) Hsz.out _ _ _⟩
theorem min_v (M:Nat) (hM:M≤134217728) (vx vy:Value) (x y:Rat) (w:World) (hx:Nr w vx x) (hy:Nr w vy y) (bx:Bq M x) (by_:Bq M y):Calls Tryz.prog 173 #[vx,vy] w fun e w'=>∃v,e=.returned v∧(∀W,Nr W vx x→Nr W vy y→Nr W v (aw x y))∧Ext w w':=by
 obtain⟨c,hc⟩:∃c,cmpQ x y=c:=⟨_,rfl⟩;unfold aw
 split
 ·rename_i h
  have h1:=(cmpQ_pos x y).2 h;exact(min_n_second M hM vx vy x y c hc (by rw [←hc,h1];rfl) w hx hy bx by_).mono fun e w1 ⟨he,hw⟩=>⟨_,he,fun W _ h=>h,hw⟩
 ·rename_i h
  refine(min_n_first M hM vx vy x y c hc ?_ w hx hy bx by_).mono fun e w1 ⟨he,hw⟩=>⟨_,he,fun W h _=>h,hw⟩
  rcases rat_tri x y with h1|h1|h1
  ·rw [←hc,(cmpQ_neg x y).2 h1];rfl
  ·rw [←hc,(cmpQ_zero x y).2 h1];rfl
  ·exact absurd h1 h
theorem max_n_first (M:Nat) (hM:M≤134217728) (vx vy:Value) (x y:Rat) (c:Int) (hc:cmpQ x y=c) (hcc:decide (0≤c)=true) (w:World) (hx:Nr w vx x) (hy:Nr w vy y) (bx:Bq M x) (by_:Bq M y):Calls Tryz.prog 174 #[vx,vy] w fun e w'=>e=.returned vx∧Ext w w':=by
 obtain⟨s1,A,k,ca,B,l,cb,rfl,hs1,hxt,hxb⟩:=hx.form;obtain⟨s2,C,m,cc,D,n,cd,rfl,hs2,hyt,hyb⟩:=hy.form;obtain⟨hS,hZ,hw1,hw2,hsz,hsz1⟩:=setupR2 w (.int .i64 s1) (.slice A k ca) (.slice B l cb) (.int .i64 s2) (.slice C m cc) (.slice D n cd);have HS:=ZZ hS;have HZ:=ZZ hZ;have HW1:=ZZ hw1;have HW2:=ZZ hw2;have Hsz1:=ZZ hsz1;have Hx:=ZZ hx;have Hy:=ZZ hy;have HXT:=ZZ hxt;have HYT:=ZZ hyt;have HS1:=ZZ hs1;have HS2:=ZZ hs2;have BX:=ZZ bx;have BY:=ZZ by_;have HM:=ZZ hM;have HC:=ZZ hc;have hc0:=hS _ hw2;clear hx hy hxt hxb hyt hyb hS hZ hw1 hw2 hsz hsz1 hs1 hs2;clear bx by_ hM hc
 go_enter Tryz.func174,Tryz.ntmps174
 go_wp2_with fail;generalize World.alloc (World.alloc (World.alloc w (.cells #[.int .i64 s1,.slice A k ca,.slice B l cb] _)) (.cells #[.int .i64 s2,.slice C m cc,.slice D n cd] _)) _=W2 at *
 generalize World.alloc (World.alloc w (.cells #[.int .i64 s1,.slice A k ca,.slice B l cb] _)) (.cells #[.int .i64 s2,.slice C m cc,.slice D n cd] _)=W1 at *;generalize hg0:w.heap.size=g0 at *;have Hsz:=ZZ (show w.heap.size≤g0+1+1 by omega);clear hg0;have hww:=ZZ (am HW1.out HW2.out);refine(cmp_e M HM.out _ _ x y c HC.out _ (Hx.out.mono hww.out) (Hy.out.mono hww.out) BX.out BY.out).mono ?_;rintro e w3 ⟨rfl,k4⟩;have K7:=ZZ k4;obtain⟨a0,a1,a2,a3,a4,a5⟩:=HS.out _ (am HW2.out k4);have hz:=HZ.out _ k4;obtain⟨z0,z1,z2,f0,f1,f2⟩:=ak hz;have Hz:=ZZ hz;clear k4 hz hc0;go_wp2_with fail;refine bodyPost_ret (v:=.agg #[.int .i64 s1,.slice A k ca,.slice B l cb]) (by simp [results,Tryz.f174];go_simp) rfl ?_;exact⟨rfl,av (am hww.out K7.out) Hsz.out _ _ _⟩
theorem max_n_second (M:Nat) (hM:M≤134217728) (vx vy:Value) (x y:Rat) (c:Int) (hc:cmpQ x y=c) (hcc:decide (0≤c)=false) (w:World) (hx:Nr w vx x) (hy:Nr w vy y) (bx:Bq M x) (by_:Bq M y):Calls Tryz.prog 174 #[vx,vy] w fun e w'=>e=.returned vy∧Ext w w':=by
 obtain⟨s1,A,k,ca,B,l,cb,rfl,hs1,hxt,hxb⟩:=hx.form;obtain⟨s2,C,m,cc,D,n,cd,rfl,hs2,hyt,hyb⟩:=hy.form;obtain⟨hS,hZ,hw1,hw2,hsz,hsz1⟩:=setupR2 w (.int .i64 s1) (.slice A k ca) (.slice B l cb) (.int .i64 s2) (.slice C m cc) (.slice D n cd);have HS:=ZZ hS;have HZ:=ZZ hZ;have HW1:=ZZ hw1;have HW2:=ZZ hw2;have Hsz1:=ZZ hsz1;have Hx:=ZZ hx;have Hy:=ZZ hy;have HXT:=ZZ hxt;have HYT:=ZZ hyt;have HS1:=ZZ hs1;have HS2:=ZZ hs2;have BX:=ZZ bx;have BY:=ZZ by_;have HM:=ZZ hM;have HC:=ZZ hc;have hc0:=hS _ hw2;clear hx hy hxt hxb hyt hyb hS hZ hw1 hw2 hsz hsz1 hs1 hs2;clear bx by_ hM hc
 go_enter Tryz.func174,Tryz.ntmps174
 go_wp2_with fail;generalize World.alloc (World.alloc (World.alloc w (.cells #[.int .i64 s1,.slice A k ca,.slice B l cb] _)) (.cells #[.int .i64 s2,.slice C m cc,.slice D n cd] _)) _=W2 at *
 generalize World.alloc (World.alloc w (.cells #[.int .i64 s1,.slice A k ca,.slice B l cb] _)) (.cells #[.int .i64 s2,.slice C m cc,.slice D n cd] _)=W1 at *;generalize hg0:w.heap.size=g0 at *;have Hsz:=ZZ (show w.heap.size≤g0+1+1 by omega);clear hg0;have hww:=ZZ (am HW1.out HW2.out);refine(cmp_e M HM.out _ _ x y c HC.out _ (Hx.out.mono hww.out) (Hy.out.mono hww.out) BX.out BY.out).mono ?_;rintro e w3 ⟨rfl,k4⟩;have K7:=ZZ k4;obtain⟨a0,a1,a2,a3,a4,a5⟩:=HS.out _ (am HW2.out k4);have hz:=HZ.out _ k4;obtain⟨z0,z1,z2,f0,f1,f2⟩:=ak hz;have Hz:=ZZ hz;clear k4 hz hc0;go_wp2_with fail;refine bodyPost_ret (v:=.agg #[.int .i64 s2,.slice C m cc,.slice D n cd]) (by simp [results,Tryz.f174];go_simp) rfl ?_;exact⟨rfl,av (am hww.out K7.out) Hsz.out _ _ _⟩
theorem max_v (M:Nat) (hM:M≤134217728) (vx vy:Value) (x y:Rat) (w:World) (hx:Nr w vx x) (hy:Nr w vy y) (bx:Bq M x) (by_:Bq M y):Calls Tryz.prog 174 #[vx,vy] w fun e w'=>∃v,e=.returned v∧(∀W,Nr W vx x→Nr W vy y→Nr W v (ay x y))∧Ext w w':=by
 obtain⟨c,hc⟩:∃c,cmpQ x y=c:=⟨_,rfl⟩;unfold ay
 split
 ·rename_i h
  have h1:=(cmpQ_neg x y).2 h;exact(max_n_second M hM vx vy x y c hc (by rw [←hc,h1];rfl) w hx hy bx by_).mono fun e w1 ⟨he,hw⟩=>⟨_,he,fun W _ h=>h,hw⟩
 ·rename_i h
  refine(max_n_first M hM vx vy x y c hc ?_ w hx hy bx by_).mono fun e w1 ⟨he,hw⟩=>⟨_,he,fun W h _=>h,hw⟩
  rcases rat_tri x y with h1|h1|h1
  ·exact absurd h1 h
  ·rw [←hc,(cmpQ_zero x y).2 h1];rfl
  ·rw [←hc,(cmpQ_pos x y).2 h1];rfl
end Go.Proofs.YtjamgccgoapbeaaGreatDoor
