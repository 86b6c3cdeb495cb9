/- Differences of counts; Sturm's chain of a polynomial; Count. Printed by gen_yh.py. Texts of numbers. Printed by gen_te.py. -/
import Derived.Test.YtaaoleakkaloeaaGreatDoorGYg
import Derived.Test.YtaaoleakkaloeaaGreatDoorGTd
import Derived.Test.YtaaoleakkaloeaaGreatDoorGRb
import Derived.Test.YtaaoleakkaloeaaGreatDoorGQd
import Derived.Lib.Hide
set_option linter.unusedVariables false
set_option maxRecDepth 100000
set_option maxHeartbeats 64000000
namespace Go.Proofs.YtaaoleakkaloeaaGreatDoor
open Go Go.RowKit
set_option linter.unusedSimpArgs false
def PreM (M:Nat) (l:List Rat):Prop:=l.length≤100∧∀x ∈ l,Bq M x
def cB (M:Nat) (c:List (List Rat)):Bool:=c.all fun l=>smB M l && decide (l.length≤100)
theorem cB_of {M:Nat} {c:List (List Rat)} (h:cB M c=true):∀l ∈ c,PreM M l:=fun l hl=>by
 have h1:=List.all_eq_true.1 h l hl;rw [Bool.and_eq_true] at h1;exact⟨of_decide_eq_true h1.2,sm_of h1.1⟩
theorem k_of {M n:Nat} (hM:M≤4294967296) (hn:n≤100):n*(M+M+1)+1+M≤1099511627776:=by
 have h1:n*(M+M+1)≤100*(M+M+1):=Nat.mul_le_mul_right _ hn;omega
theorem sgn_at (M:Nat) (hM0:0<M) (hM:M≤4294967296) (x:Rat) (bx:Bq M x) {w:World} {s1:Bool} {A1:Option Addr} {k1 ca1:Nat} {B1:Option Addr} {l1 cb1:Nat} (hx:Nm w (.agg #[.bool s1,.slice A1 k1 ca1,.slice B1 l1 cb1]) x):SgnV (w.alloc (.cells #[.bool s1,.slice A1 k1 ca1,.slice B1 l1 cb1] 36)) (.func (.func 120) #[] #[.pointer (some ⟨w.heap.size,0,none⟩)]) (atF x) (PreM M):=
 ⟨120,#[.pointer (some ⟨w.heap.size,0,none⟩)],rfl,enters_of Tryz.func120 (by kernel_rfl) rfl,fun W k v l hp hl=>
  at1_p M hM0 x bx w.heap.size s1 A1 k1 ca1 B1 l1 cb1 v l (by have:=hl.1;omega) (k_of hM hl.1) hl.2 W ((k.block _ (lt_of_block (heap_alloc_new w _))).trans (heap_alloc_new w _)) (hx.mono (ak (ab _ _) k)) hp⟩
def betweenF (c:List (List Rat)) (lo hi:Rat):Int:=flipsF c (atF lo) - flipsF c (atF hi)
theorem between_p (M:Nat) (hM0:0<M) (hM:M≤4294967296) (v vl vh:Value) (c:List (List Rat)) (lo hi:Rat) (hn:c.length≤1000000) (hc:cB M c=true) (w:World) (h:PlL w v c) (hlo:Nm w vl lo) (hhi:Nm w vh hi) (blo:Bq M lo) (bhi:Bq M hi):Calls Tryz.prog 43 #[v,vl,vh] w fun e w'=>e=.returned (.int .i64 (betweenF c lo hi))∧Ext w w':=by
 obtain⟨s1,A1,k1,ca1,B1,l1,cb1,rfl⟩:=hlo.form2;obtain⟨s2,A2,k2,ca2,B2,l2,cb2,rfl⟩:=hhi.form2;obtain⟨A,cap,e0,-⟩:=id h;obtain⟨n,hnn⟩:∃n,c.length=n:=⟨_,rfl⟩;rw [hnn] at e0;subst e0;obtain⟨z1,hz1⟩:∃z,flipsF c (atF lo)=z:=⟨_,rfl⟩;obtain⟨z2,hz2⟩:∃z,flipsF c (atF hi)=z:=⟨_,rfl⟩;have hb1:=flips_bound 0 (c.map (atF lo));have hb2:=flips_bound 0 (c.map (atF hi));rw [show flipsU 0 (c.map (atF lo))=z1 from hz1,List.length_map] at hb1;rw [show flipsU 0 (c.map (atF hi))=z2 from hz2,List.length_map] at hb2;have q3:IntKind.i64.wrap (z1 - z2)=z1 - z2:=IntWalk.i64_in _ (by omega);have HBE:=ZZ (show betweenF c lo hi=z1 - z2 by unfold betweenF;rw [hz1,hz2]);have HZ1:=ZZ hz1;have HZ2:=ZZ hz2;have HN:=ZZ hn;have HPR:=ZZ (cB_of hc);have HM0:=ZZ hM0;have HM:=ZZ hM;have BLO:=ZZ blo;have BHI:=ZZ bhi;rw [HBE.out];have x1:=ab w (.cells #[.bool s1,.slice A1 k1 ca1,.slice B1 l1 cb1] 36);have x2:=ab (w.alloc (.cells #[.bool s1,.slice A1 k1 ca1,.slice B1 l1 cb1] 36)) (.cells #[.bool s2,.slice A2 k2 ca2,.slice B2 l2 cb2] 36);have r1:=(x2.block _ (lt_of_block (heap_alloc_new w (.cells #[.bool s1,.slice A1 k1 ca1,.slice B1 l1 cb1] 36)))).trans (heap_alloc_new w (.cells #[.bool s1,.slice A1 k1 ca1,.slice B1 l1 cb1] 36));have r2:=heap_alloc_new (w.alloc (.cells #[.bool s1,.slice A1 k1 ca1,.slice B1 l1 cb1] 36)) (.cells #[.bool s2,.slice A2 k2 ca2,.slice B2 l2 cb2] 36);rw [World.size_alloc] at r2;have EW:=ZZ (ak x1 x2);have N1:=ZZ (hlo.mono EW.out);have N2:=ZZ (hhi.mono EW.out)
 have HP:=ZZ (h.mono EW.out);have R1:=ZZ r1;have R2:=ZZ r2;clear hz1 hz2 hb1 hb2 hn hc hM0 hM blo bhi x1 x2 r1 r2 h hlo hhi hnn
 go_enter Tryz.func43,Tryz.ntmps43
 go_upto_region 1 with (fail)
 generalize (w.alloc (.cells #[.bool s1,.slice A1 k1 ca1,.slice B1 l1 cb1] _)).alloc (.cells #[.bool s2,.slice A2 k2 ca2,.slice B2 l2 cb2] _)=W0 at *;obtain⟨ga,hga⟩:∃g,w.heap.size=g:=⟨_,rfl⟩;obtain⟨gb,hgb⟩:∃g,w.heap.size+1=g:=⟨_,rfl⟩;rw [hgb,hga]
 have HC:=ZZ (show ∀W,Ext W0 W→W.cell? ⟨ga,0,none⟩=some (.bool s1)∧W.cell? ⟨ga,1,none⟩=some (.slice A1 k1 ca1)∧W.cell? ⟨ga,2,none⟩=some (.slice B1 l1 cb1)∧W.cell? ⟨gb,0,none⟩=some (.bool s2)∧W.cell? ⟨gb,1,none⟩=some (.slice A2 k2 ca2)∧W.cell? ⟨gb,2,none⟩=some (.slice B2 l2 cb2) from fun W k=>by
  obtain⟨y0,y1,y2,-⟩:=ai ((k.block _ (lt_of_block R1.out)).trans R1.out);obtain⟨u0,u1,u2,-⟩:=ai ((k.block _ (lt_of_block R2.out)).trans R2.out);rw [←hgb,←hga];exact⟨y0,y1,y2,u0,u1,u2⟩)
 clear hga hgb R1 R2;have hun:undef=.tuple #[]:=rfl;refine wp_region_noPanic ?_;refine wp_region_held_drew (S:=fun W=>W.cell? ⟨ga,0,none⟩=some (.bool s1)∧W.cell? ⟨ga,1,none⟩=some (.slice A1 k1 ca1)∧W.cell? ⟨ga,2,none⟩=some (.slice B1 l1 cb1)∧W.cell? ⟨gb,0,none⟩=some (.bool s2)∧W.cell? ⟨gb,1,none⟩=some (.slice A2 k2 ca2)∧W.cell? ⟨gb,2,none⟩=some (.slice B2 l2 cb2)) (by kernel_rfl) (HC.out _ (ac _)) (fun hHeld=>?_);refine take_a 0 7 ?_;refine take_a 1 8 ?_;refine take_a 4 11 ?_;refine take_a 5 12 ?_;refine call_p (i:=2) (some 9) rfl rfl (by kernel_rfl) (fun K hK=>?_)
 go_simp
 go_at_call 86
 refine(at_c _ lo _ (N1.out.mono (ac _))).mono ?_;rintro e w4 ⟨rfl,hw4⟩;have SG:=ZZ (hw4 ▸ sgn_at M HM0.out HM.out lo BLO.out (N1.out.mono (ac W0)));have hx1:=ZZ (show Ext W0 w4 from by rw [hw4];exact ak (ac _) (ab _ _));clear hw4
 try go_wp2_with fail
 refine hK.out _ _ (HC.out _ hx1.out) (fun hHeld=>?_);clear hK K
 try simp only [Act.put,lyA,lyB,lyC]
 refine call_p (i:=3) (some 10) rfl rfl (by kernel_rfl) (fun K hK=>?_)
 go_simp
 go_at_call 38
 refine(flips_p _ _ c (atF lo) (PreM M) HN.out HPR.out _ (HP.out.mono hx1.out) SG.out z1 HZ1.out).mono ?_;rintro e w5 ⟨rfl,k5⟩;have hx2:=ZZ (ak hx1.out k5);clear k5 SG
 try go_wp2_with fail
 refine hK.out _ _ (HC.out _ hx2.out) (fun hHeld=>?_);clear hK K
 try simp only [Act.put,lyA,lyB,lyC]
 refine call_p (i:=6) (some 13) rfl rfl (by kernel_rfl) (fun K hK=>?_)
 go_simp
 go_at_call 86
 refine(at_c _ hi _ (N2.out.mono hx2.out)).mono ?_;rintro e w6 ⟨rfl,hw6⟩;have SG:=ZZ (hw6 ▸ sgn_at M HM0.out HM.out hi BHI.out (N2.out.mono hx2.out));have hx3:=ZZ (show Ext W0 w6 from by rw [hw6];exact ak hx2.out (ab _ _));clear hw6
 try go_wp2_with fail
 refine hK.out _ _ (HC.out _ hx3.out) (fun hHeld=>?_);clear hK K
 try simp only [Act.put,lyA,lyB,lyC]
 refine call_p (i:=7) (some 14) rfl rfl (by kernel_rfl) (fun K hK=>?_)
 go_simp
 go_at_call 38
 refine(flips_p _ _ c (atF hi) (PreM M) HN.out HPR.out _ (HP.out.mono hx3.out) SG.out z2 HZ2.out).mono ?_;rintro e w7 ⟨rfl,k7⟩;have hx4:=ZZ (ak hx3.out k7);clear k7 SG
 try go_wp2_with fail
 refine hK.out _ _ (HC.out _ hx4.out) (fun hHeld=>?_);clear hK K
 try simp only [Act.put,lyA,lyB,lyC]
 refine take_a 8 15 ?_;refine take_a 9 6 ?_;refine wpAnyH_done (by kernel_rfl) ?_ _;refine NoPanic.normal ?_;go_wp2_with fail;go_ret;exact⟨rfl,ak EW.out hx4.out⟩
def ownF (p:List Rat):List (List Rat):=chainF (simpleF p) (derivF (simpleF p))
def ownOk (M:Nat) (p:List Rat):Bool:=simpleOk M p && smB M (simpleF p) && chainOk M (simpleF p) (derivF (simpleF p)) && cB M (ownF p)
theorem chain_len (p q:List Rat):(chainF p q).length≤p.length+q.length+2:=by
 have:∀(k:Nat) (a b:List Rat),(chainU k a b).length≤k:=by
  intro k
  induction k with
  | zero=>intro a b;exact Nat.le_refl _
  | succ k ih=>
   intro a b;unfold chainU
   split
   ·exact Nat.zero_le _
   ·split
    ·simp
    ·rw [List.length_cons];exact Nat.succ_le_succ (ih _ _)
 exact this _ _ _
theorem simple_len (p:List Rat):(simpleF p).length≤p.length+1:=(div_len _ _).1
theorem own_len (p:List Rat):(ownF p).length≤2*p.length+4:=by
 have h1:=chain_len (simpleF p) (derivF (simpleF p));have h2:=simple_len p;have h3:=deriv_len (simpleF p);unfold ownF;omega
theorem own_p (M:Nat) (hM0:0<M) (hM:M≤4294967296) (vp:Value) (p:List Rat) (hlp:p.length≤90000) (w:World) (hp:Pl w vp p) (hok:ownOk M p=true):Calls Tryz.prog 42 #[vp] w fun e w'=>∃v,e=.returned v∧PlL w' v (ownF p)∧Ext w w':=by
 unfold ownOk at hok;rw [Bool.and_eq_true,Bool.and_eq_true,Bool.and_eq_true] at hok;obtain⟨⟨⟨h1,h2⟩,h3⟩,-⟩:=hok;have HP:=ZZ hp;have HLP:=ZZ hlp;have H1:=ZZ h1;have H2:=ZZ (sm_of h2);have H3:=ZZ h3;have HM0:=ZZ hM0;have HM:=ZZ hM;have LS:=ZZ (show (simpleF p).length≤100000 by have:=simple_len p;omega);clear hp hlp h1 h2 h3 hM0 hM
 go_enter Tryz.func42,Tryz.ntmps42
 go_wp2_with fail;refine(simple_p M HM0.out (Nat.le_trans HM.out (by decide)) _ p (by have:=HLP.out;omega) _ HP.out H1.out).mono ?_
 rintro e w3 ⟨v3,rfl,h3,k3⟩;have G3:=ZZ h3;have K3:=ZZ k3;clear h3 k3;go_wp2_with fail;refine(deriv_p M HM0.out (by have:=HM.out;omega) _ (simpleF p) (by have:=LS.out;omega) _ G3.out H2.out).mono ?_;rintro e w4 ⟨v4,rfl,h4,k4⟩;have G4:=ZZ h4.pl;have K4:=ZZ (ak K3.out k4);have G3b:=ZZ (G3.out.mono k4);clear h4 k4;go_wp2_with fail;refine(chain_p M HM0.out HM.out _ _ (simpleF p) (derivF (simpleF p)) LS.out (Nat.le_trans (deriv_len _) LS.out) _ G3b.out G4.out H3.out).mono ?_;rintro e w5 ⟨v5,rfl,h5,k5⟩;have G5:=ZZ h5;have K5:=ZZ (ak K4.out k5);clear h5 k5;go_wp2_with fail;go_ret;exact⟨_,rfl,G5.out,K5.out⟩
end Go.Proofs.YtaaoleakkaloeaaGreatDoor
set_option linter.unusedVariables false
set_option maxRecDepth 100000
set_option maxHeartbeats 64000000
namespace Go.Proofs.YtaaoleakkaloeaaGreatDoor
open Go.RowKit
theorem dec_len {n M:Nat} (h:n<2 ^ M):(Lib.decDigits n).length≤M+1:=dec_length_le (M+1) n (by omega) (by
 have h7:2 ^ M≤10 ^ M:=Nat.pow_le_pow_left (by decide) _;have h8:10 ^ M≤10 ^ (M+1):=Nat.pow_le_pow_right (by decide) (by omega)
 omega)
theorem text_pos_one (M:Nat) (hM:M≤1099511627776) (vx:Value) (x:Rat) (w:World) (hx:Nm w vx x) (bx:Bq M x) (htab:Tens w) (hb:decide (x.num<0)=false) (hd:x.den=1):Calls Tryz.prog 27 #[vx] w fun e w'=>e=.returned (.string ⟨(txt x).toArray⟩)∧Ext w w':=by
 have HT:=ZZ htab;have HD:=ZZ hd;have HB:=ZZ hb;have N1:=ZZ bx.1;have N2:=ZZ bx.2;have l1:=dec_len bx.1;have l2:=dec_len bx.2;have HM:=ZZ hM;obtain⟨A,k,ca,B,l,cb,rfl,hxn,hxd,hkx,hlx⟩:=hx.form;rw [hb] at hx ⊢;have Hx:=ZZ hx;have Hxn:=ZZ hxn;obtain rfl:l=0:=hlx.2 hd;obtain⟨dn_,hdn⟩:∃q,q=Lib.decDigits x.num.natAbs:=⟨_,rfl⟩;obtain⟨dd_,hdd⟩:∃q,q=Lib.decDigits x.den:=⟨_,rfl⟩;have HDN:=ZZ hdn;have HDD:=ZZ hdd;rw [←hdn] at l1;rw [←hdd] at l2
 have HR:=ZZ (show (⟨dn_.toArray⟩:ByteArray)=⟨(txt x).toArray⟩ by
  unfold txt;have hb':¬ x.num<0:=by simpa using hb
  rw [if_neg hb',if_pos hd,←hdn]
  simp)
 clear hx hxn hxd hkx hlx htab hd hb bx hM hdn hdd l1 l2;obtain⟨hS,-,hw1,-⟩:=setup1 w (.bool false) (.slice A k ca) (.slice B 0 cb);have HS:=ZZ hS;have hww:=ZZ hw1;clear hS hw1
 go_enter Tryz.func27,Tryz.ntmps27
 go_wp2_with fail;generalize World.alloc w (.cells #[.bool false,.slice A k ca,.slice B 0 cb] _)=W2 at *
 generalize w.heap.size=g0 at *;refine(row_c M HM.out _ _ _ (Hxn.out.mono hww.out) N1.out (HT.out.mono hww.out)).mono ?_;rintro e w1 ⟨rfl,k1⟩;rw [←HDN.out];obtain⟨r0,r1,r2⟩:=HS.out _ k1;have K1:=ZZ k1;clear k1;go_wp2_with fail;go_ret;exact⟨by rw [←HR.out];rfl,ak hww.out K1.out⟩
theorem text_pos_more (M:Nat) (hM:M≤1099511627776) (vx:Value) (x:Rat) (w:World) (hx:Nm w vx x) (bx:Bq M x) (htab:Tens w) (hb:decide (x.num<0)=false) (hd:¬ x.den=1):Calls Tryz.prog 27 #[vx] w fun e w'=>e=.returned (.string ⟨(txt x).toArray⟩)∧Ext w w':=by
 have HT:=ZZ htab;have HD:=ZZ hd;have HB:=ZZ hb;have N1:=ZZ bx.1;have N2:=ZZ bx.2;have l1:=dec_len bx.1;have l2:=dec_len bx.2;have HM:=ZZ hM;obtain⟨A,k,ca,B,l,cb,rfl,hxn,hxd,hkx,hlx⟩:=hx.form;rw [hb] at hx ⊢;have Hx:=ZZ hx;have Hxn:=ZZ hxn
 have hxd':Wd w (.slice B l cb) x.den:=by
  unfold dn at hxd
  rwa [if_neg hd] at hxd
 have Hxd:=ZZ hxd';have hl0:¬ l=0:=fun h=>hd (hlx.1 h);have t5:(0:Int)<(l:Int):=by omega
 clear hxd' hl0;obtain⟨dn_,hdn⟩:∃q,q=Lib.decDigits x.num.natAbs:=⟨_,rfl⟩;obtain⟨dd_,hdd⟩:∃q,q=Lib.decDigits x.den:=⟨_,rfl⟩;have HDN:=ZZ hdn;have HDD:=ZZ hdd;rw [←hdn] at l1;rw [←hdd] at l2;have c2:1+dd_.length≤9223372036854775807:=by omega
 have e2:(⟨#[47]⟩:ByteArray) ++ ⟨dd_.toArray⟩=⟨(47 :: dd_).toArray⟩:=str_append [47] dd_;have c3:dn_.length+(47 :: dd_).length≤9223372036854775807:=by have q:(47 :: dd_).length=dd_.length+1:=rfl;have q2:(45 :: dn_).length=dn_.length+1:=rfl;omega
 have c4:dn_.length+(dd_.length+1)≤9223372036854775807:=by have q2:(45 :: dn_).length=dn_.length+1:=rfl;omega
 have c5:dn_.length+(dd_.length+1)≤9223372036854775807:=by omega
 have e3:(⟨dn_.toArray⟩:ByteArray) ++ ⟨(47 :: dd_).toArray⟩=⟨(dn_ ++ 47 :: dd_).toArray⟩:=str_append _ _
 have HR:=ZZ (show (⟨(dn_ ++ 47 :: dd_).toArray⟩:ByteArray)=⟨(txt x).toArray⟩ by
  unfold txt;have hb':¬ x.num<0:=by simpa using hb
  rw [if_neg hb',if_neg hd,←hdn,←hdd]
  simp)
 clear hx hxn hxd hkx hlx htab hd hb bx hM hdn hdd l1 l2;obtain⟨hS,-,hw1,-⟩:=setup1 w (.bool false) (.slice A k ca) (.slice B l cb);have HS:=ZZ hS;have hww:=ZZ hw1;clear hS hw1
 go_enter Tryz.func27,Tryz.ntmps27
 go_wp2_with fail;generalize World.alloc w (.cells #[.bool false,.slice A k ca,.slice B l cb] _)=W2 at *
 generalize w.heap.size=g0 at *;refine(row_c M HM.out _ _ _ (Hxn.out.mono hww.out) N1.out (HT.out.mono hww.out)).mono ?_;rintro e w1 ⟨rfl,k1⟩;rw [←HDN.out];obtain⟨r0,r1,r2⟩:=HS.out _ k1;have K1:=ZZ k1;clear k1;go_wp2_with fail;refine(row_c M HM.out _ _ _ (Hxd.out.mono (ak hww.out K1.out)) N2.out (HT.out.mono (ak hww.out K1.out))).mono ?_;rintro e w2 ⟨rfl,k2⟩;rw [←HDD.out];have K2:=ZZ (ak K1.out k2);clear k2;go_wp2_with fail;go_ret;exact⟨by rw [←HR.out];rfl,ak hww.out K2.out⟩
theorem text_neg_one (M:Nat) (hM:M≤1099511627776) (vx:Value) (x:Rat) (w:World) (hx:Nm w vx x) (bx:Bq M x) (htab:Tens w) (hb:decide (x.num<0)=true) (hd:x.den=1):Calls Tryz.prog 27 #[vx] w fun e w'=>e=.returned (.string ⟨(txt x).toArray⟩)∧Ext w w':=by
 have HT:=ZZ htab;have HD:=ZZ hd;have HB:=ZZ hb;have N1:=ZZ bx.1;have N2:=ZZ bx.2;have l1:=dec_len bx.1;have l2:=dec_len bx.2;have HM:=ZZ hM;obtain⟨A,k,ca,B,l,cb,rfl,hxn,hxd,hkx,hlx⟩:=hx.form;rw [hb] at hx ⊢;have Hx:=ZZ hx;have Hxn:=ZZ hxn;obtain rfl:l=0:=hlx.2 hd;obtain⟨dn_,hdn⟩:∃q,q=Lib.decDigits x.num.natAbs:=⟨_,rfl⟩;obtain⟨dd_,hdd⟩:∃q,q=Lib.decDigits x.den:=⟨_,rfl⟩;have HDN:=ZZ hdn;have HDD:=ZZ hdd;rw [←hdn] at l1;rw [←hdd] at l2;have c1:1+dn_.length≤9223372036854775807:=by omega
 have e1:(⟨#[45]⟩:ByteArray) ++ ⟨dn_.toArray⟩=⟨(45 :: dn_).toArray⟩:=str_append [45] dn_
 have HR:=ZZ (show (⟨(45 :: dn_).toArray⟩:ByteArray)=⟨(txt x).toArray⟩ by
  unfold txt;have hb':x.num<0:=by simpa using hb
  rw [if_pos hb',if_pos hd,←hdn]
  simp)
 clear hx hxn hxd hkx hlx htab hd hb bx hM hdn hdd l1 l2;obtain⟨hS,-,hw1,-⟩:=setup1 w (.bool true) (.slice A k ca) (.slice B 0 cb);have HS:=ZZ hS;have hww:=ZZ hw1;clear hS hw1
 go_enter Tryz.func27,Tryz.ntmps27
 go_wp2_with fail;generalize World.alloc w (.cells #[.bool true,.slice A k ca,.slice B 0 cb] _)=W2 at *
 generalize w.heap.size=g0 at *;refine(row_c M HM.out _ _ _ (Hxn.out.mono hww.out) N1.out (HT.out.mono hww.out)).mono ?_;rintro e w1 ⟨rfl,k1⟩;rw [←HDN.out];obtain⟨r0,r1,r2⟩:=HS.out _ k1;have K1:=ZZ k1;clear k1;go_wp2_with fail;go_ret;exact⟨by rw [←HR.out];rfl,ak hww.out K1.out⟩
theorem text_neg_more (M:Nat) (hM:M≤1099511627776) (vx:Value) (x:Rat) (w:World) (hx:Nm w vx x) (bx:Bq M x) (htab:Tens w) (hb:decide (x.num<0)=true) (hd:¬ x.den=1):Calls Tryz.prog 27 #[vx] w fun e w'=>e=.returned (.string ⟨(txt x).toArray⟩)∧Ext w w':=by
 have HT:=ZZ htab;have HD:=ZZ hd;have HB:=ZZ hb;have N1:=ZZ bx.1;have N2:=ZZ bx.2;have l1:=dec_len bx.1;have l2:=dec_len bx.2;have HM:=ZZ hM;obtain⟨A,k,ca,B,l,cb,rfl,hxn,hxd,hkx,hlx⟩:=hx.form;rw [hb] at hx ⊢;have Hx:=ZZ hx;have Hxn:=ZZ hxn
 have hxd':Wd w (.slice B l cb) x.den:=by
  unfold dn at hxd
  rwa [if_neg hd] at hxd
 have Hxd:=ZZ hxd';have hl0:¬ l=0:=fun h=>hd (hlx.1 h);have t5:(0:Int)<(l:Int):=by omega
 clear hxd' hl0;obtain⟨dn_,hdn⟩:∃q,q=Lib.decDigits x.num.natAbs:=⟨_,rfl⟩;obtain⟨dd_,hdd⟩:∃q,q=Lib.decDigits x.den:=⟨_,rfl⟩;have HDN:=ZZ hdn;have HDD:=ZZ hdd;rw [←hdn] at l1;rw [←hdd] at l2;have c1:1+dn_.length≤9223372036854775807:=by omega
 have e1:(⟨#[45]⟩:ByteArray) ++ ⟨dn_.toArray⟩=⟨(45 :: dn_).toArray⟩:=str_append [45] dn_;have c2:1+dd_.length≤9223372036854775807:=by omega
 have e2:(⟨#[47]⟩:ByteArray) ++ ⟨dd_.toArray⟩=⟨(47 :: dd_).toArray⟩:=str_append [47] dd_;have c3:(45 :: dn_).length+(47 :: dd_).length≤9223372036854775807:=by have q:(47 :: dd_).length=dd_.length+1:=rfl;have q2:(45 :: dn_).length=dn_.length+1:=rfl;omega
 have c4:(45 :: dn_).length+(dd_.length+1)≤9223372036854775807:=by have q2:(45 :: dn_).length=dn_.length+1:=rfl;omega
 have c5:dn_.length+1+(dd_.length+1)≤9223372036854775807:=by omega
 have e3:(⟨(45 :: dn_).toArray⟩:ByteArray) ++ ⟨(47 :: dd_).toArray⟩=⟨((45 :: dn_) ++ 47 :: dd_).toArray⟩:=str_append _ _
 have HR:=ZZ (show (⟨((45 :: dn_) ++ 47 :: dd_).toArray⟩:ByteArray)=⟨(txt x).toArray⟩ by
  unfold txt;have hb':x.num<0:=by simpa using hb
  rw [if_pos hb',if_neg hd,←hdn,←hdd]
  simp)
 clear hx hxn hxd hkx hlx htab hd hb bx hM hdn hdd l1 l2;obtain⟨hS,-,hw1,-⟩:=setup1 w (.bool true) (.slice A k ca) (.slice B l cb);have HS:=ZZ hS;have hww:=ZZ hw1;clear hS hw1
 go_enter Tryz.func27,Tryz.ntmps27
 go_wp2_with fail;generalize World.alloc w (.cells #[.bool true,.slice A k ca,.slice B l cb] _)=W2 at *
 generalize w.heap.size=g0 at *;refine(row_c M HM.out _ _ _ (Hxn.out.mono hww.out) N1.out (HT.out.mono hww.out)).mono ?_;rintro e w1 ⟨rfl,k1⟩;rw [←HDN.out];obtain⟨r0,r1,r2⟩:=HS.out _ k1;have K1:=ZZ k1;clear k1;go_wp2_with fail;refine(row_c M HM.out _ _ _ (Hxd.out.mono (ak hww.out K1.out)) N2.out (HT.out.mono (ak hww.out K1.out))).mono ?_;rintro e w2 ⟨rfl,k2⟩;rw [←HDD.out];have K2:=ZZ (ak K1.out k2);clear k2;go_wp2_with fail;go_ret;exact⟨by rw [←HR.out];rfl,ak hww.out K2.out⟩
theorem text_c (M:Nat) (hM:M≤1099511627776) (vx:Value) (x:Rat) (w:World) (hx:Nm w vx x) (bx:Bq M x) (htab:Tens w):Calls Tryz.prog 27 #[vx] w fun e w'=>e=.returned (.string ⟨(txt x).toArray⟩)∧Ext w w':=by
 rcases hb:decide (x.num<0) with _|_
 ·by_cases hd:x.den=1
  ·exact text_pos_one M hM vx x w hx bx htab hb hd
  ·exact text_pos_more M hM vx x w hx bx htab hb hd
 ·by_cases hd:x.den=1
  ·exact text_neg_one M hM vx x w hx bx htab hb hd
  ·exact text_neg_more M hM vx x w hx bx htab hb hd
end Go.Proofs.YtaaoleakkaloeaaGreatDoor
