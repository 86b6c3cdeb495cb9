/- Differences of counts; Sturm's chain of a polynomial; Count. -/
import Derived.Test.YtkoaakefgacokaaGreatDoorGYg
import Derived.Test.YtkoaakefgacokaaGreatDoorGRat
set_option linter.unusedVariables false
set_option linter.unusedSimpArgs false
set_option maxRecDepth 100000
set_option maxHeartbeats 64000000
namespace Go.Proofs.YtkoaakefgacokaaGreatDoor
open Go.RowKit
def PreM (M:Nat) (l:List Rat):Prop:=l.length≤100∧∀x ∈ l,Bq M x
def cB (M:Nat) (c:List (List Rat)):Bool:=c.all fun l=>smB M l && decide (l.length≤100)
theorem cB_of {M:Nat} {c:List (List Rat)} (h:cB M c=true):∀l ∈ c,PreM M l:=fun l hl=>by
 have h1:=List.all_eq_true.1 h l hl;rw [Bool.and_eq_true] at h1;exact⟨of_decide_eq_true h1.2,sm_of h1.1⟩
theorem k_of {M n:Nat} (hM:M≤5400000000) (hn:n≤100):n*(M+M+1)+1+M≤1099511627776:=by
 have h1:n*(M+M+1)≤100*(M+M+1):=Nat.mul_le_mul_right _ hn;omega
theorem sgn_at (M:Nat) (hM0:0<M) (hM:M≤5400000000) (x:Rat) (bx:Bq M x) {w:World} {s1:Bool} {A1:Option Addr} {k1 ca1:Nat} {B1:Option Addr} {l1 cb1:Nat} (hx:Nm w (.agg #[.bool s1,.slice A1 k1 ca1,.slice B1 l1 cb1]) x):SgnV (w.alloc (.cells #[.bool s1,.slice A1 k1 ca1,.slice B1 l1 cb1] 38)) (.func (.func 115) #[] #[.pointer (some ⟨w.heap.size,0,none⟩)]) (atF x) (PreM M):=
 ⟨115,#[.pointer (some ⟨w.heap.size,0,none⟩)],rfl,enters_of Tryz.func115 (by kernel_rfl) rfl,fun W k v l hp hl=>
  at1_p M hM0 x bx w.heap.size s1 A1 k1 ca1 B1 l1 cb1 v l (by have:=hl.1;omega) (k_of hM hl.1) hl.2 W ((k.block _ (lt_of_block (heap_alloc_new w _))).trans (heap_alloc_new w _)) (hx.mono (al (ab _ _) k)) hp⟩
def betweenF (c:List (List Rat)) (lo hi:Rat):Int:=flipsF c (atF lo) - flipsF c (atF hi)
theorem between_p (M:Nat) (hM0:0<M) (hM:M≤5400000000) (v vl vh:Value) (c:List (List Rat)) (lo hi:Rat) (hn:c.length≤1000000) (hc:cB M c=true) (w:World) (h:PlL w v c) (hlo:Nm w vl lo) (hhi:Nm w vh hi) (blo:Bq M lo) (bhi:Bq M hi):Calls Tryz.prog 38 #[v,vl,vh] w fun e w'=>e=.returned (.int .i64 (betweenF c lo hi))∧Ext w w':=by
 obtain⟨s1,A1,k1,ca1,B1,l1,cb1,rfl⟩:=hlo.form2;obtain⟨s2,A2,k2,ca2,B2,l2,cb2,rfl⟩:=hhi.form2;obtain⟨A,cap,e0,-⟩:=id h;obtain⟨n,hnn⟩:∃n,c.length=n:=⟨_,rfl⟩;rw [hnn] at e0;subst e0;obtain⟨z1,hz1⟩:∃z,flipsF c (atF lo)=z:=⟨_,rfl⟩;obtain⟨z2,hz2⟩:∃z,flipsF c (atF hi)=z:=⟨_,rfl⟩;have hb1:=flips_bound 0 (c.map (atF lo));have hb2:=flips_bound 0 (c.map (atF hi));rw [show flipsU 0 (c.map (atF lo))=z1 from hz1,List.length_map] at hb1;rw [show flipsU 0 (c.map (atF hi))=z2 from hz2,List.length_map] at hb2;have q3:IntKind.i64.wrap (z1 - z2)=z1 - z2:=IntWalk.i64_in _ (by omega);have HBE:=ZZ (show betweenF c lo hi=z1 - z2 by unfold betweenF;rw [hz1,hz2]);have HZ1:=ZZ hz1;have HZ2:=ZZ hz2;have HN:=ZZ hn;have HPR:=ZZ (cB_of hc);have HM0:=ZZ hM0;have HM:=ZZ hM;have BLO:=ZZ blo;have BHI:=ZZ bhi;rw [HBE.out];have x1:=ab w (.cells #[.bool s1,.slice A1 k1 ca1,.slice B1 l1 cb1] 38);have x2:=ab (w.alloc (.cells #[.bool s1,.slice A1 k1 ca1,.slice B1 l1 cb1] 38)) (.cells #[.bool s2,.slice A2 k2 ca2,.slice B2 l2 cb2] 38);have r1:=(x2.block _ (lt_of_block (heap_alloc_new w (.cells #[.bool s1,.slice A1 k1 ca1,.slice B1 l1 cb1] 38)))).trans (heap_alloc_new w (.cells #[.bool s1,.slice A1 k1 ca1,.slice B1 l1 cb1] 38));have r2:=heap_alloc_new (w.alloc (.cells #[.bool s1,.slice A1 k1 ca1,.slice B1 l1 cb1] 38)) (.cells #[.bool s2,.slice A2 k2 ca2,.slice B2 l2 cb2] 38);rw [World.size_alloc] at r2;have EW:=ZZ (al x1 x2);have N1:=ZZ (hlo.mono EW.out);have N2:=ZZ (hhi.mono EW.out)
 have HP:=ZZ (h.mono EW.out);have R1:=ZZ r1;have R2:=ZZ r2;clear hz1 hz2 hb1 hb2 hn hc hM0 hM blo bhi x1 x2 r1 r2 h hlo hhi hnn
 go_enter Tryz.func38,Tryz.ntmps38
 go_upto_region 1 with (fail)
 generalize (w.alloc (.cells #[.bool s1,.slice A1 k1 ca1,.slice B1 l1 cb1] _)).alloc (.cells #[.bool s2,.slice A2 k2 ca2,.slice B2 l2 cb2] _)=W0 at *;obtain⟨ga,hga⟩:∃g,w.heap.size=g:=⟨_,rfl⟩;obtain⟨gb,hgb⟩:∃g,w.heap.size+1=g:=⟨_,rfl⟩;rw [hgb,hga]
 have HC:=ZZ (show ∀W,Ext W0 W→W.cell? ⟨ga,0,none⟩=some (.bool s1)∧W.cell? ⟨ga,1,none⟩=some (.slice A1 k1 ca1)∧W.cell? ⟨ga,2,none⟩=some (.slice B1 l1 cb1)∧W.cell? ⟨gb,0,none⟩=some (.bool s2)∧W.cell? ⟨gb,1,none⟩=some (.slice A2 k2 ca2)∧W.cell? ⟨gb,2,none⟩=some (.slice B2 l2 cb2) from fun W k=>by
  obtain⟨y0,y1,y2,-⟩:=aj ((k.block _ (lt_of_block R1.out)).trans R1.out);obtain⟨u0,u1,u2,-⟩:=aj ((k.block _ (lt_of_block R2.out)).trans R2.out);rw [←hgb,←hga];exact⟨y0,y1,y2,u0,u1,u2⟩)
 clear hga hgb R1 R2;have hun:undef=.tuple #[]:=rfl;refine wp_region_noPanic ?_;refine wp_region_held_drew (S:=fun W=>W.cell? ⟨ga,0,none⟩=some (.bool s1)∧W.cell? ⟨ga,1,none⟩=some (.slice A1 k1 ca1)∧W.cell? ⟨ga,2,none⟩=some (.slice B1 l1 cb1)∧W.cell? ⟨gb,0,none⟩=some (.bool s2)∧W.cell? ⟨gb,1,none⟩=some (.slice A2 k2 ca2)∧W.cell? ⟨gb,2,none⟩=some (.slice B2 l2 cb2)) (by kernel_rfl) (HC.out _ (ac _)) (fun hHeld=>?_);refine take_a 0 7 ?_;refine take_a 1 8 ?_;refine take_a 4 11 ?_;refine take_a 5 12 ?_;refine call_p (i:=2) (some 9) rfl rfl (by kernel_rfl) (fun K hK=>?_)
 go_simp
 go_at_call 79
 refine(at_c _ lo _ (N1.out.mono (ac _))).mono ?_;rintro e w4 ⟨rfl,hw4⟩;have SG:=ZZ (hw4 ▸ sgn_at M HM0.out HM.out lo BLO.out (N1.out.mono (ac W0)));have hx1:=ZZ (show Ext W0 w4 from by rw [hw4];exact al (ac _) (ab _ _));clear hw4
 try go_wp2_with fail
 refine hK.out _ _ (HC.out _ hx1.out) (fun hHeld=>?_);clear hK K
 try simp only [Act.put,lyA,lyB,lyC]
 refine call_p (i:=3) (some 10) rfl rfl (by kernel_rfl) (fun K hK=>?_)
 go_simp
 go_at_call 31
 refine(flips_p _ _ c (atF lo) (PreM M) HN.out HPR.out _ (HP.out.mono hx1.out) SG.out z1 HZ1.out).mono ?_;rintro e w5 ⟨rfl,k5⟩;have hx2:=ZZ (al hx1.out k5);clear k5 SG
 try go_wp2_with fail
 refine hK.out _ _ (HC.out _ hx2.out) (fun hHeld=>?_);clear hK K
 try simp only [Act.put,lyA,lyB,lyC]
 refine call_p (i:=6) (some 13) rfl rfl (by kernel_rfl) (fun K hK=>?_)
 go_simp
 go_at_call 79
 refine(at_c _ hi _ (N2.out.mono hx2.out)).mono ?_;rintro e w6 ⟨rfl,hw6⟩;have SG:=ZZ (hw6 ▸ sgn_at M HM0.out HM.out hi BHI.out (N2.out.mono hx2.out));have hx3:=ZZ (show Ext W0 w6 from by rw [hw6];exact al hx2.out (ab _ _));clear hw6
 try go_wp2_with fail
 refine hK.out _ _ (HC.out _ hx3.out) (fun hHeld=>?_);clear hK K
 try simp only [Act.put,lyA,lyB,lyC]
 refine call_p (i:=7) (some 14) rfl rfl (by kernel_rfl) (fun K hK=>?_)
 go_simp
 go_at_call 31
 refine(flips_p _ _ c (atF hi) (PreM M) HN.out HPR.out _ (HP.out.mono hx3.out) SG.out z2 HZ2.out).mono ?_;rintro e w7 ⟨rfl,k7⟩;have hx4:=ZZ (al hx3.out k7);clear k7 SG
 try go_wp2_with fail
 refine hK.out _ _ (HC.out _ hx4.out) (fun hHeld=>?_);clear hK K
 try simp only [Act.put,lyA,lyB,lyC]
 refine take_a 8 15 ?_;refine take_a 9 6 ?_;refine wpAnyH_done (by kernel_rfl) ?_ _;refine NoPanic.normal ?_;go_wp2_with fail;go_ret;exact⟨rfl,al EW.out hx4.out⟩
def ownF (p:List Rat):List (List Rat):=chainF (simpleF p) (derivF (simpleF p))
def ownOk (M:Nat) (p:List Rat):Bool:=simpleOk M p && smB M (simpleF p) && chainOk M (simpleF p) (derivF (simpleF p)) && cB M (ownF p)
theorem chain_len (p q:List Rat):(chainF p q).length≤p.length+q.length+2:=by
 have:∀(k:Nat) (a b:List Rat),(chainU k a b).length≤k:=by
  intro k
  induction k with
  | zero=>intro a b;exact Nat.le_refl _
  | succ k ih=>
   intro a b;unfold chainU
   split
   ·exact Nat.zero_le _
   ·split
    ·simp
    ·rw [List.length_cons];exact Nat.succ_le_succ (ih _ _)
 exact this _ _ _
theorem simple_len (p:List Rat):(simpleF p).length≤p.length+1:=(div_len _ _).1
theorem own_len (p:List Rat):(ownF p).length≤2*p.length+4:=by
 have h1:=chain_len (simpleF p) (derivF (simpleF p));have h2:=simple_len p;have h3:=deriv_len (simpleF p);unfold ownF;omega
theorem own_p (M:Nat) (hM0:0<M) (hM:M≤5400000000) (vp:Value) (p:List Rat) (hlp:p.length≤90000) (w:World) (hp:Pl w vp p) (hok:ownOk M p=true):Calls Tryz.prog 39 #[vp] w fun e w'=>∃v,e=.returned v∧PlL w' v (ownF p)∧Ext w w':=by
 unfold ownOk at hok;rw [Bool.and_eq_true,Bool.and_eq_true,Bool.and_eq_true] at hok;obtain⟨⟨⟨h1,h2⟩,h3⟩,-⟩:=hok;have HP:=ZZ hp;have HLP:=ZZ hlp;have H1:=ZZ h1;have H2:=ZZ (sm_of h2);have H3:=ZZ h3;have HM0:=ZZ hM0;have HM:=ZZ hM;have LS:=ZZ (show (simpleF p).length≤100000 by have:=simple_len p;omega);clear hp hlp h1 h2 h3 hM0 hM
 go_enter Tryz.func39,Tryz.ntmps39
 go_wp2_with fail;refine(simple_p M HM0.out (Nat.le_trans HM.out (by decide)) _ p (by have:=HLP.out;omega) _ HP.out H1.out).mono ?_
 rintro e w3 ⟨v3,rfl,h3,k3⟩;have G3:=ZZ h3;have K3:=ZZ k3;clear h3 k3;go_wp2_with fail;refine(deriv_p M HM0.out (by have:=HM.out;omega) _ (simpleF p) (by have:=LS.out;omega) _ G3.out H2.out).mono ?_;rintro e w4 ⟨v4,rfl,h4,k4⟩;have G4:=ZZ h4.pl;have K4:=ZZ (al K3.out k4);have G3b:=ZZ (G3.out.mono k4);clear h4 k4;go_wp2_with fail;refine(chain_p M HM0.out HM.out _ _ (simpleF p) (derivF (simpleF p)) LS.out (Nat.le_trans (deriv_len _) LS.out) _ G3b.out G4.out H3.out).mono ?_;rintro e w5 ⟨v5,rfl,h5,k5⟩;have G5:=ZZ h5;have K5:=ZZ (al K4.out k5);clear h5 k5;go_wp2_with fail;go_ret;exact⟨_,rfl,G5.out,K5.out⟩
theorem byte_eq (a c:UInt8):((((a.toNat:Nat):Int) == ((c.toNat:Nat):Int))=true↔a=c):=by
 rw [beq_iff_eq]
 constructor
 ·intro e;apply UInt8.toNat_inj.1;omega
 ·rintro rfl;rfl
theorem split_r (l:List UInt8) (c:UInt8) (hs:l.length≤9223372036854775807) (w:World):Calls Tryz.prog 55 #[.string ⟨l.toArray⟩,.int .u8 (c.toNat:Int)] w fun e w'=>e=.returned (.tuple #[.string ⟨(cutB c l).1.toArray⟩,.string ⟨(cutB c l).2.1.toArray⟩,.bool (cutB c l).2.2])∧∃q,w'=w.drewN q:=by
 have hsz:(⟨l.toArray⟩:ByteArray).size=l.length:=by simp [ByteArray.size]
 go_enter Tryz.func55,Tryz.ntmps55
 go_wp2_with fail
 go_loopg [7] (l.length) (fun k i wr=>∃t:Nat,t+k=l.length∧i=.int .i64 (t:Int)∧Hid (c ∉ l.take t)∧wr=w)
 case atStart=>exact⟨0,by omega,rfl,ZZ (by simp),rfl⟩
 case round=>
  obtain⟨t,ht,rfl,HN,rfl⟩:=hrel
  rcases Nat.eq_zero_or_pos gk with hz|hz
  ·subst hz
   obtain rfl:t=l.length:=by omega
   have HNO:=ZZ (show cutB c l=(l,[],false) from cutB_no l c (by have:=HN.out;rwa [List.take_length] at this));go_wp2_with fail;refine bodyPost_ret (v:=.tuple #[.string ⟨l.toArray⟩,.string ⟨#[]⟩,.bool false]) (by simp [results,Tryz.f55]) rfl ?_;exact⟨by rw [HNO.out],0,rfl⟩
  ·have hlt:(t:Int)<(l.length:Int):=by omega
   have htl:t<l.length:=by omega
   have hz1:t<(⟨l.toArray⟩:ByteArray).size:=by rw [hsz];exact htl
   have hge:(⟨l.toArray⟩:ByteArray)[t]'hz1=(l[t]'htl):=by rfl
   have HT:=ZZ ht;have HZ0:=ZZ hz;have HTL:=ZZ htl
   by_cases hb:(l[t]'htl)=c
   ·have ht1:((((⟨l.toArray⟩:ByteArray)[t]'hz1).toNat:Int) == (c.toNat:Int))=true:=by rw [hge];exact(byte_eq _ _).2 hb
    have HY:=ZZ (show cutB c l=(l.take t,l.drop (t+1),true) by
     have h1:l=l.take t ++ c :: l.drop (t+1):=by
      have h0:l=l.take t ++ (l[t]'htl) :: l.drop (t+1):=by rw [←List.drop_eq_getElem_cons htl,List.take_append_drop]
      have h3:l.take t ++ (l[t]'htl) :: l.drop (t+1)=l.take t ++ c :: l.drop (t+1):=by rw [show l[t]'htl=c from hb]
      exact h0.trans h3
     have h2:=cutB_yes (l.take t) (l.drop (t+1)) c HN.out;rw [←h1] at h2;exact h2)
    have hx1:(⟨l.toArray⟩:ByteArray).extract 0 t=⟨(l.take t).toArray⟩:=by apply ByteArray.ext;simp
    have hx2:(⟨l.toArray⟩:ByteArray).extract (t+1) l.length=⟨(l.drop (t+1)).toArray⟩:=by apply ByteArray.ext;simp;exact List.take_of_length_le (by simp)
    have hw:IntKind.i64.wrap ((t:Int)+1)=((t+1:Nat):Int):=(IntWalk.i64_in _ (by omega)).trans (by omega);have hb1:(t:Int)≤(l.length:Int):=by omega
    have hb2:((t+1:Nat):Int)≤(l.length:Int):=by omega
    clear hb hge;go_wp2_with fail
    go_quiet (fail)
    go_wp2_with fail;refine bodyPost_ret (v:=.tuple #[.string ⟨(l.take t).toArray⟩,.string ⟨(l.drop (t+1)).toArray⟩,.bool true]) (by simp [results,Tryz.f55]) rfl ?_
    exact⟨by rw [HY.out],_,rfl⟩
   ·have ht1:((((⟨l.toArray⟩:ByteArray)[t]'hz1).toNat:Int) == (c.toNat:Int))=false:=by
     rw [hge]
     cases h:((((l[t]'htl).toNat:Nat):Int) == ((c.toNat:Nat):Int)) with
     | false=>rfl
     | true=>exact absurd ((byte_eq _ _).1 h) hb
    have HB:=ZZ hb;clear hb hge;have hw:IntKind.i64.wrap ((t:Int)+1)=((t+1:Nat):Int):=(IntWalk.i64_in _ (by omega)).trans (by omega);go_wp2_with fail
    go_roundg (gk - 1)
    case measure=>have:=HZ0.out;omega
    case rel=>
     refine⟨t+1,by have:=HT.out;have:=HZ0.out;omega,by first|rfl|simp,ZZ ?_,rfl⟩;rw [List.take_succ_eq_append_getElem HTL.out,List.mem_append,List.mem_singleton];rintro(h|h)
     ·exact HN.out h
     ·exact HB.out h.symm
theorem all_take {l:List UInt8} {t:Nat} (h:t<l.length) (ha:(l.take t).all isDig=true) (hd:isDig (l[t]'h)=true):(l.take (t+1)).all isDig=true:=by
 rw [List.take_succ_eq_append_getElem h,List.all_append,ha]
 simp [hd]
theorem digits_r (l:List UInt8) (hs:l.length≤9223372036854775807) (w:World):Calls Tryz.prog 56 #[.string ⟨l.toArray⟩] w fun e w'=>e=.returned (.bool (digB l))∧w'=w:=by
 have hsz:(⟨l.toArray⟩:ByteArray).size=l.length:=by simp [ByteArray.size]
 go_enter Tryz.func56,Tryz.ntmps56
 go_wp2_with fail
 go_loopg [3] (l.length) (fun k i wr=>∃t:Nat,t+k=l.length∧i=.int .i64 (t:Int)∧Hid ((l.take t).all isDig=true)∧wr=w)
 case atStart=>exact⟨0,by omega,rfl,ZZ (by simp),rfl⟩
 case round=>
  obtain⟨t,ht,rfl,HN,rfl⟩:=hrel
  rcases Nat.eq_zero_or_pos gk with hz|hz
  ·subst hz
   obtain rfl:t=l.length:=by omega
   have hall:=HN.out;rw [List.take_length] at hall
   have HD:=ZZ (show digB l=decide (0<l.length) by
    unfold digB;rw [hall,Bool.and_true]
    cases l <;> simp)
   clear hall
   by_cases h0:0<l.length
   ·have HD2:=ZZ (show digB l=true by rw [HD.out,decide_eq_true h0])
    have h3:decide ((0:Int)<(l.length:Int))=true:=decide_eq_true (by omega);have h2:decide (0<l.length)=true:=decide_eq_true h0;go_wp2_with fail;go_ret;exact⟨by rw [HD2.out];rfl,rfl⟩
   ·have h1:l.length=0:=by omega
    have HD2:=ZZ (show digB l=false by rw [HD.out,decide_eq_false h0]);have h2:decide (0<l.length)=false:=decide_eq_false h0;have h3:decide ((0:Int)<(l.length:Int))=false:=decide_eq_false (by omega);go_wp2_with fail;go_ret;exact⟨by rw [HD2.out];rfl,rfl⟩
  ·have hlt:(t:Int)<(l.length:Int):=by omega
   have htl:t<l.length:=by omega
   have hz1:t<(⟨l.toArray⟩:ByteArray).size:=by rw [hsz];exact htl
   have hge:(⟨l.toArray⟩:ByteArray)[t]'hz1=(l[t]'htl):=by rfl
   have HT:=ZZ ht;have HZ0:=ZZ hz;have HTL:=ZZ htl;have hw:IntKind.i64.wrap ((t:Int)+1)=((t+1:Nat):Int):=(IntWalk.i64_in _ (by omega)).trans (by omega);obtain⟨x,hx⟩:∃x:Nat,x=((l[t]'htl)).toNat:=⟨_,rfl⟩;have hxe:((⟨l.toArray⟩:ByteArray)[t]'hz1).toNat=x:=by rw [hge,hx]
   by_cases h1:x<48
   ·have ht1:decide ((((⟨l.toArray⟩:ByteArray)[t]'hz1).toNat:Int)<48)=true:=by rw [hxe];simp;omega
    have ht2:decide (((⟨l.toArray⟩:ByteArray)[t]'hz1).toNat<48)=true:=by rw [hxe];simp;omega
    have HNO:=ZZ (show digB l=false by
     unfold digB
     rw [show l.all isDig=false from by
      rw [List.all_eq_false];exact⟨(l[t]'htl),List.getElem_mem _,by cases hq:isDig (l[t]'htl) with
       | false=>exact Bool.false_ne_true
       | true=>exact absurd hq (by rw [isDig_iff,←hx];omega)⟩,Bool.and_false])
    clear hge hxe hx h1;go_wp2_with fail;go_ret;exact⟨by rw [HNO.out];rfl,rfl⟩
   ·have ht1:decide ((((⟨l.toArray⟩:ByteArray)[t]'hz1).toNat:Int)<48)=false:=by rw [hxe];simp;omega
    have ht2:decide (((⟨l.toArray⟩:ByteArray)[t]'hz1).toNat<48)=false:=by rw [hxe];simp;omega
    by_cases h2:57<x
    ·have ht3:decide ((57:Int)<(((⟨l.toArray⟩:ByteArray)[t]'hz1).toNat:Int))=true:=by rw [hxe];simp;omega
     have ht4:decide (57<((⟨l.toArray⟩:ByteArray)[t]'hz1).toNat)=true:=by rw [hxe];simp;omega
     have HNO:=ZZ (show digB l=false by
      unfold digB
      rw [show l.all isDig=false from by
       rw [List.all_eq_false];exact⟨(l[t]'htl),List.getElem_mem _,by cases hq:isDig (l[t]'htl) with
       | false=>exact Bool.false_ne_true
       | true=>exact absurd hq (by rw [isDig_iff,←hx];omega)⟩,Bool.and_false])
     clear hge hxe hx h1 h2;go_wp2_with fail;go_ret;exact⟨by rw [HNO.out];rfl,rfl⟩
    ·have ht3:decide ((57:Int)<(((⟨l.toArray⟩:ByteArray)[t]'hz1).toNat:Int))=false:=by rw [hxe];simp;omega
     have ht4:decide (57<((⟨l.toArray⟩:ByteArray)[t]'hz1).toNat)=false:=by rw [hxe];simp;omega
     have HAT:=ZZ (all_take HTL.out HN.out (by rw [isDig_iff,←hx];omega));clear hge hxe hx h1 h2;go_wp2_with fail
     go_roundg (gk - 1)
     case measure=>have:=HZ0.out;omega
     case rel=>exact⟨t+1,by have:=HT.out;have:=HZ0.out;omega,by first|rfl|simp,HAT,rfl⟩
theorem sgnB_ne (b:Bool):sgnB b≠0:=by cases b <;> decide
theorem sign_sgnB {q:Rat} (h:q≠0):q.num.sign=sgnB (decide (q.num<0)):=by
 have hn:q.num≠0:=fun e=>h (Rat.num_eq_zero.1 e);unfold sgnB
 by_cases hl:q.num<0
 ·rw [Int.sign_eq_neg_one_of_neg hl,if_pos (decide_eq_true hl)]
 ·rw [Int.sign_eq_one_of_pos (by omega),if_neg (fun e=>hl (of_decide_eq_true e))]
theorem rat_ne_zero {b:Bool} {n d:Nat} (hn:0<n) (hd:0<d):rat b n d≠0:=by
 intro e;have h:=rat_natAbs b n d (by omega);rw [e] at h;have hg:0<n / Nat.gcd n d:=Nat.div_pos (Nat.gcd_le_left d hn) (Nat.gcd_pos_of_pos_left _ hn)
 simp at h
 omega
theorem rat_sgn {b:Bool} {n d:Nat} (hn:0<n) (hd:0<d):(rat b n d).num.sign=sgnB b:=by
 rw [sign_sgnB (rat_ne_zero hn hd),rat_neg b n d (by omega) hn]
def bn (q:Rat):Nat:=if q.num=0 then 0 else q.den
theorem bn_rat {b:Bool} {n d:Nat} (hn:0<n) (hd:0<d):bn (rat b n d)=d / Nat.gcd n d:=by
 unfold bn;rw [if_neg (fun e=>rat_ne_zero hn hd (Rat.num_eq_zero.1 e)),rat_den _ _ _ (by omega)]
def Nr (w:World) (v:Value) (q:Rat):Prop:=∃s vt vb,v=.agg #[.int .i64 s,vt,vb]∧q.num.sign=s∧Wr w vt q.num.natAbs∧Wr w vb (bn q)
theorem Nr.mono {w w':World} {v:Value} {q:Rat} (h:Nr w v q) (k:Ext w w'):Nr w' v q:=by
 obtain⟨s,vt,vb,e,hs,h1,h2⟩:=h;exact⟨s,vt,vb,e,hs,h1.mono k,h2.mono k⟩
theorem Nr.zero (w:World):Nr w (.agg #[.int .i64 0,.slice none 0 0,.slice none 0 0]) 0:=⟨0,_,_,rfl,rfl,Wr.zero w,Wr.zero w⟩
theorem nr_mk {W:World} {b:Bool} {s:Int} {vt vb:Value} {n d n' d':Nat} (hs:sgnB b=s) (hn:0<n) (hd:0<d) (h1:n'=n / Nat.gcd n d) (h2:d'=d / Nat.gcd n d) (ha:Wr W vt n') (hb:Wr W vb d'):Nr W (.agg #[.int .i64 s,vt,vb]) (rat b n d):=by
 subst hs;refine⟨_,vt,vb,rfl,rat_sgn hn hd,?_,?_⟩
 ·rw [rat_natAbs b n d (by omega),←h1];exact ha
 ·rw [bn_rat hn hd,←h2];exact hb
theorem Nr.form {w:World} {v:Value} {q:Rat} (h:Nr w v q):∃s A k c B l d,v=.agg #[.int .i64 s,.slice A k c,.slice B l d]∧q.num.sign=s∧Wr w (.slice A k c) q.num.natAbs∧Wr w (.slice B l d) (bn q):=by
 obtain⟨s,vt,vb,e,hs,h1,h2⟩:=h;obtain⟨A,c,rfl,hc,hA⟩:=h1;obtain⟨B,d,rfl,hd,hB⟩:=h2;exact⟨s,A,_,c,B,_,d,e,hs,⟨A,c,rfl,hc,hA⟩,⟨B,d,rfl,hd,hB⟩⟩
theorem Wr.put_z {W:World} {v:Value} {n g:Nat} {T:TypeId} {A0 B0:Option Addr} {k0 c0 k1 c1:Nat} (h:Wr W v n) (hg:W.heap[g]?=some (.cells #[.int .i64 0,.slice A0 k0 c0,.slice B0 k1 c1] T (0,0))) (a b c:Value):Wr (((W.setCell ⟨g,0,none⟩ a).setCell ⟨g,1,none⟩ b).setCell ⟨g,2,none⟩ c) v n:=by
 rcases Nat.eq_zero_or_pos n with h0|h0
 ·subst h0
  obtain⟨A,cc,e,hc,hcl⟩:=h;refine⟨A,cc,e,hc,?_⟩
  left
  have hz:dr 0=[]:=by simp [dr,dig_zero]
  rw [hz];rfl
 ·have hne:v.ownBlock≠some g:=by
   obtain⟨A,cc,rfl,hc,hcl⟩:=h;obtain⟨t1,t2,t3,-,-⟩:=dr_top h0;obtain⟨b,o,rfl,hce⟩:=hcl.i t3;intro e;obtain rfl:b=g:=Option.some.inj e;have h1:=hce ((dr n).length - 1) (by omega);rw [cell_of_row W b _ _ _ _ hg] at h1;generalize (dr n).getD ((dr n).length - 1) 0=top at *
   rcases(show o+((dr n).length - 1)=0∨o+((dr n).length - 1)=1∨o+((dr n).length - 1)=2∨3≤o+((dr n).length - 1) by omega) with e|e|e|e
   ·rw [e] at h1
    have:=Value.int.inj (Option.some.inj h1)
    omega
   ·rw [e] at h1;simp at h1
   ·rw [e] at h1;simp at h1
   ·rw [Array.getElem?_eq_none (by simpa using e)] at h1;cases h1
  exact((h.set_ hne).set_ hne).set_ hne
theorem Wr.form' {w:World} {v:Value} {n:Nat} (h:Wr w v n):∃A k c,v=.slice A k c:=by
 obtain⟨A,c,rfl,-,-⟩:=h;exact⟨A,_,c,rfl⟩
theorem Wr.formL {w:World} {v:Value} {n:Nat} (h:Wr w v n):∃A k c,v=.slice A k c∧(k=0↔n=0):=by
 obtain⟨A,c,rfl,-,-⟩:=h;refine⟨A,_,c,rfl,?_⟩;rw [List.length_eq_zero_iff];exact dig_eq_nil B30_two
theorem rowR {w W:World} {x y z:Value} (h:Ext (w.alloc (.cells #[x,y,z] 59)) W):W.heap[w.heap.size]?=some (.cells #[x,y,z] 59 (0,0)):=
 (h.block _ (by simp)).trans (heap_alloc_new w _)
theorem ak {W:World} {g:Nat} {x y z:Value} {T:TypeId} (h:W.heap[g]?=some (.cells #[x,y,z] T (0,0))):W.cell? ⟨g,0,none⟩=some x∧W.cell? ⟨g,1,none⟩=some y∧W.cell? ⟨g,2,none⟩=some z∧W.frozen? ⟨g,0,none⟩=false∧W.frozen? ⟨g,1,none⟩=false∧W.frozen? ⟨g,2,none⟩=false:=by
 refine⟨?_,?_,?_,?_,?_,?_⟩ <;> simp [World.cell?,World.frozen?,h]
theorem ap {w W:World} {g:Nat} (h:Ext w W) (hg:w.heap.size≤g) (a b c:Value):Ext w (((W.setCell ⟨g,0,none⟩ a).setCell ⟨g,1,none⟩ b).setCell ⟨g,2,none⟩ c):=
 ((h.setCell hg _).setCell hg _).setCell hg _
theorem Nr.put_z {W:World} {v:Value} {q:Rat} {g:Nat} {T:TypeId} {A0 B0:Option Addr} {k0 c0 k1 c1:Nat} (h:Nr W v q) (hg:W.heap[g]?=some (.cells #[.int .i64 0,.slice A0 k0 c0,.slice B0 k1 c1] T (0,0))) (a b c:Value):Nr (((W.setCell ⟨g,0,none⟩ a).setCell ⟨g,1,none⟩ b).setCell ⟨g,2,none⟩ c) v q:=by
 obtain⟨s,vt,vb,e,hs,h1,h2⟩:=h;exact⟨s,vt,vb,e,hs,h1.put_z hg _ _ _,h2.put_z hg _ _ _⟩
def FrN (B:Nat) (v:Value):Prop:=∀s A k c A' l d,v=.agg #[.int .i64 s,.slice A k c,.slice A' l d]→Fr B (.slice A k c)∧Fr B (.slice A' l d)
def BlC (C:Nat→Prop) (v:Value):Prop:=∀a k c,v=.slice (some a) k c→0<k→C a.block
def BlN (C:Nat→Prop) (v:Value):Prop:=∀s A k c A' l d,v=.agg #[.int .i64 s,.slice A k c,.slice A' l d]→BlC C (.slice A k c)∧BlC C (.slice A' l d)
theorem Fr.blc {B:Nat} {v:Value} {C:Nat→Prop} (h:Fr B v) (hC:∀b,B≤b→C b):BlC C v:=by rintro a k c rfl -;exact hC _ (h _ rfl)
theorem bln_mk {C:Nat→Prop} {s:Int} {A A':Option Addr} {k c l d:Nat} (h1:BlC C (.slice A k c)) (h2:BlC C (.slice A' l d)):BlN C (.agg #[.int .i64 s,.slice A k c,.slice A' l d]):=by
 intro s1 A1 k1 c1 A2 l2 d2 e
 simp only [Value.agg.injEq,Array.mk.injEq,List.cons.injEq,Value.slice.injEq] at e
 obtain⟨-,⟨rfl,rfl,rfl⟩,⟨rfl,rfl,rfl⟩,-⟩:=e;exact⟨h1,h2⟩
theorem blc_none {C:Nat→Prop} {k c:Nat}:BlC C (.slice none k c):=by intro a k c e;cases e
def FrM (w:World) (vt vb v:Value):Prop:=(∀B,B≤w.heap.size→Fr B vt→Fr B vb→FrN B v)∧∀C:Nat→Prop,(∀b,w.heap.size≤b→C b)→BlC C vt→BlC C vb→BlN C v
theorem frn_mk {B:Nat} {s:Int} {A A':Option Addr} {k c l d:Nat} (h1:Fr B (.slice A k c)) (h2:Fr B (.slice A' l d)):FrN B (.agg #[.int .i64 s,.slice A k c,.slice A' l d]):=by
 intro s1 A1 k1 c1 A2 l2 d2 e
 simp only [Value.agg.injEq,Array.mk.injEq,List.cons.injEq,Value.slice.injEq] at e
 obtain⟨-,⟨rfl,rfl,rfl⟩,⟨rfl,rfl,rfl⟩,-⟩:=e;exact⟨h1,h2⟩
theorem Fr.mono {B C:Nat} {v:Value} (h:Fr C v) (k:B≤C):Fr B v:=fun b hb=>Nat.le_trans k (h b hb)
theorem FrN.mono {B C:Nat} {v:Value} (h:FrN C v) (k:B≤C):FrN B v:=fun s A n c A' l d e=>⟨(h s A n c A' l d e).1.mono k,(h s A n c A' l d e).2.mono k⟩
theorem made_zero (b:Bool) (s:Int) (hs:sgnB b=s) (vt vb:Value) (n d:Nat) (h0:0<d) (w:World) (ha:Wr w vt n) (hb:Wr w vb d) (sa:(dr n).length≤34359738368) (sb:(dr d).length≤34359738368) (hn:n=0):Calls Tryz.prog 57 #[.int .i64 s,vt,vb] w fun e w'=>∃v,e=.returned v∧Nr w' v (rat b n d)∧Ext w w'∧FrM w vt vb v:=by
 obtain⟨A,k,ca,rfl,hk⟩:=ha.formL;obtain⟨B,l,cb,rfl⟩:=hb.form';have hs0:(s == 0)=false:=by rw [beq_eq_false_iff_ne,←hs];exact sgnB_ne b
 have K0:=ZZ (ab w (.cells #[.int .i64 0,.slice none 0 0,.slice none 0 0] 59));have R0:=ZZ (ae (w.alloc (.cells #[.int .i64 0,.slice none 0 0,.slice none 0 0] 59)));have HA0:=ZZ ha;have HB0:=ZZ hb;have HA:=ZZ (ha.mono K0.out);have HB:=ZZ (hb.mono K0.out);have HS:=ZZ hs;have H0:=ZZ h0;have SA:=ZZ sa;have SB:=ZZ sb;have HK:=ZZ hk;subst hn;obtain rfl:k=0:=HK.out.2 rfl;clear ha hb hs h0 sa sb hk;obtain⟨z0,z1,z2,f0,f1,f2⟩:=ak (rowR R0.out)
 go_enter Tryz.func57,Tryz.ntmps57
 go_wp2_with fail;refine bodyPost_ret (v:=.agg #[.int .i64 0,.slice none 0 0,.slice none 0 0]) (by simp [results,Tryz.f57];go_simp) rfl ?_
 exact⟨_,rfl,by rw [rat_zero];exact Nr.zero _,ab _ _,⟨fun B _ _ _=>frn_mk (fun b hb=>by cases hb) (fun b hb=>by cases hb),fun C _ _ _=>bln_mk blc_none blc_none⟩⟩
theorem made_one (b:Bool) (s:Int) (hs:sgnB b=s) (vt vb:Value) (n d:Nat) (h0:0<d) (w:World) (ha:Wr w vt n) (hb:Wr w vb d) (sa:(dr n).length≤34359738368) (sb:(dr d).length≤34359738368) (hn:0<n) (h1:n=1):Calls Tryz.prog 57 #[.int .i64 s,vt,vb] w fun e w'=>∃v,e=.returned v∧Nr w' v (rat b n d)∧Ext w w'∧FrM w vt vb v:=by
 obtain⟨A,k,ca,rfl,hk⟩:=ha.formL;obtain⟨B,l,cb,rfl⟩:=hb.form';have hs0:(s == 0)=false:=by rw [beq_eq_false_iff_ne,←hs];exact sgnB_ne b
 have K0:=ZZ (ab w (.cells #[.int .i64 0,.slice none 0 0,.slice none 0 0] 59));have R0:=ZZ (ae (w.alloc (.cells #[.int .i64 0,.slice none 0 0,.slice none 0 0] 59)));have HA0:=ZZ ha;have HB0:=ZZ hb;have HA:=ZZ (ha.mono K0.out);have HB:=ZZ (hb.mono K0.out);have HS:=ZZ hs;have H0:=ZZ h0;have SA:=ZZ sa;have SB:=ZZ sb;have HK:=ZZ hk;have H1:=ZZ h1;clear h1;have HN:=ZZ hn;have hkp:((k:Int) == 0)=false:=by rw [beq_eq_false_iff_ne];intro e;have:=hk.1 (by omega);omega
 clear ha hb hs h0 sa sb hk hn;obtain⟨z0,z1,z2,f0,f1,f2⟩:=ak (rowR R0.out)
 go_enter Tryz.func57,Tryz.ntmps57
 go_wp2_with fail;refine(is1_r _ (n) true (by first|exact decide_eq_true H1.out|exact decide_eq_false H1.out) _ HA.out).mono ?_
 rintro e wi ⟨rfl,rfl⟩;go_wp2_with fail;refine bodyPost_ret (v:=.agg #[.int .i64 s,.slice A k ca,.slice B l cb]) (by simp [results,Tryz.f57];go_simp) rfl ?_;exact⟨_,rfl,nr_mk HS.out HN.out H0.out (by rw [H1.out,Nat.gcd_one_left,Nat.div_one]) (by rw [H1.out,Nat.gcd_one_left,Nat.div_one]) (HA0.out.mono (ab _ _)) (HB0.out.mono (ab _ _)),ab _ _,⟨fun B _ fa fb=>frn_mk fa fb,fun C _ fa fb=>bln_mk fa fb⟩⟩
theorem made_whole (b:Bool) (s:Int) (hs:sgnB b=s) (vt vb:Value) (n d:Nat) (h0:0<d) (w:World) (ha:Wr w vt n) (hb:Wr w vb d) (sa:(dr n).length≤34359738368) (sb:(dr d).length≤34359738368) (hn:0<n) (h1:¬ n=1) (h2:d=1):Calls Tryz.prog 57 #[.int .i64 s,vt,vb] w fun e w'=>∃v,e=.returned v∧Nr w' v (rat b n d)∧Ext w w'∧FrM w vt vb v:=by
 obtain⟨A,k,ca,rfl,hk⟩:=ha.formL;obtain⟨B,l,cb,rfl⟩:=hb.form';have hs0:(s == 0)=false:=by rw [beq_eq_false_iff_ne,←hs];exact sgnB_ne b
 have K0:=ZZ (ab w (.cells #[.int .i64 0,.slice none 0 0,.slice none 0 0] 59));have R0:=ZZ (ae (w.alloc (.cells #[.int .i64 0,.slice none 0 0,.slice none 0 0] 59)));have HA0:=ZZ ha;have HB0:=ZZ hb;have HA:=ZZ (ha.mono K0.out);have HB:=ZZ (hb.mono K0.out);have HS:=ZZ hs;have H0:=ZZ h0;have SA:=ZZ sa;have SB:=ZZ sb;have HK:=ZZ hk;have H1:=ZZ h1;have H2:=ZZ h2;clear h1 h2;have HN:=ZZ hn;have hkp:((k:Int) == 0)=false:=by rw [beq_eq_false_iff_ne];intro e;have:=hk.1 (by omega);omega
 clear ha hb hs h0 sa sb hk hn;obtain⟨z0,z1,z2,f0,f1,f2⟩:=ak (rowR R0.out)
 go_enter Tryz.func57,Tryz.ntmps57
 go_wp2_with fail;refine(is1_r _ (n) false (by first|exact decide_eq_true H1.out|exact decide_eq_false H1.out) _ HA.out).mono ?_
 rintro e wi ⟨rfl,rfl⟩;go_wp2_with fail;refine(is1_r _ (d) true (by first|exact decide_eq_true H2.out|exact decide_eq_false H2.out) _ HB.out).mono ?_;rintro e wi ⟨rfl,rfl⟩;go_wp2_with fail;refine bodyPost_ret (v:=.agg #[.int .i64 s,.slice A k ca,.slice B l cb]) (by simp [results,Tryz.f57];go_simp) rfl ?_;exact⟨_,rfl,nr_mk HS.out HN.out H0.out (by rw [H2.out,Nat.gcd_one_right,Nat.div_one]) (by rw [H2.out,Nat.gcd_one_right,Nat.div_one]) (HA0.out.mono (ab _ _)) (HB0.out.mono (ab _ _)),ab _ _,⟨fun B _ fa fb=>frn_mk fa fb,fun C _ fa fb=>bln_mk fa fb⟩⟩
theorem made_low (b:Bool) (s:Int) (hs:sgnB b=s) (vt vb:Value) (n d:Nat) (h0:0<d) (w:World) (ha:Wr w vt n) (hb:Wr w vb d) (sa:(dr n).length≤34359738368) (sb:(dr d).length≤34359738368) (hn:0<n) (h1:¬ n=1) (h2:¬ d=1) (hg:Nat.gcd n d=1):Calls Tryz.prog 57 #[.int .i64 s,vt,vb] w fun e w'=>∃v,e=.returned v∧Nr w' v (rat b n d)∧Ext w w'∧FrM w vt vb v:=by
 obtain⟨A,k,ca,rfl,hk⟩:=ha.formL;obtain⟨B,l,cb,rfl⟩:=hb.form';have hs0:(s == 0)=false:=by rw [beq_eq_false_iff_ne,←hs];exact sgnB_ne b
 have K0:=ZZ (ab w (.cells #[.int .i64 0,.slice none 0 0,.slice none 0 0] 59));have R0:=ZZ (ae (w.alloc (.cells #[.int .i64 0,.slice none 0 0,.slice none 0 0] 59)));have HA0:=ZZ ha;have HB0:=ZZ hb;have HA:=ZZ (ha.mono K0.out);have HB:=ZZ (hb.mono K0.out);have HS:=ZZ hs;have H0:=ZZ h0;have SA:=ZZ sa;have SB:=ZZ sb;have HK:=ZZ hk;have H1:=ZZ h1;have H2:=ZZ h2;have HG:=ZZ hg;have HGP:=ZZ (show 0<Nat.gcd n d from Nat.gcd_pos_of_pos_left _ hn);clear h1 h2 hg;have HN:=ZZ hn;have hkp:((k:Int) == 0)=false:=by rw [beq_eq_false_iff_ne];intro e;have:=hk.1 (by omega);omega
 clear ha hb hs h0 sa sb hk hn
 go_enter Tryz.func57,Tryz.ntmps57
 go_wp2_with fail;refine(is1_r _ (n) false (by first|exact decide_eq_true H1.out|exact decide_eq_false H1.out) _ HA.out).mono ?_
 rintro e wi ⟨rfl,rfl⟩;go_wp2_with fail;refine(is1_r _ (d) false (by first|exact decide_eq_true H2.out|exact decide_eq_false H2.out) _ HB.out).mono ?_;rintro e wi ⟨rfl,rfl⟩;go_wp2_with fail;refine(divisor_r _ _ n d H0.out _ HA.out HB.out SA.out SB.out).mono ?_;rintro e w2 ⟨v2,rfl,h2,k2⟩;obtain⟨G2,g2,c2,rfl⟩:=h2.form';have H3:=ZZ h2;have K2:=ZZ k2;have HA2:=ZZ (HA.out.mono k2);have HB2:=ZZ (HB.out.mono k2);clear h2 k2;go_wp2_with fail;obtain⟨z0,z1,z2,f0,f1,f2⟩:=ak (rowR K2.out);refine(is1_r _ (Nat.gcd n d) true (by first|exact decide_eq_true HG.out|exact decide_eq_false HG.out) _ H3.out).mono ?_;rintro e wi ⟨rfl,rfl⟩;go_wp2_with fail;refine bodyPost_ret (v:=.agg #[.int .i64 s,.slice A k ca,.slice B l cb]) (by simp [results,Tryz.f57];go_simp) rfl ?_;refine⟨_,rfl,?_,ap (al K0.out K2.out) (Nat.le_refl _) _ _ _,⟨fun B _ fa fb=>frn_mk fa fb,fun C _ fa fb=>bln_mk fa fb⟩⟩;exact Nr.put_z (nr_mk HS.out HN.out H0.out (by rw [HG.out,Nat.div_one]) (by rw [HG.out,Nat.div_one]) HA2.out HB2.out) (rowR K2.out) _ _ _
theorem made_red (b:Bool) (s:Int) (hs:sgnB b=s) (vt vb:Value) (n d:Nat) (h0:0<d) (w:World) (ha:Wr w vt n) (hb:Wr w vb d) (sa:(dr n).length≤34359738368) (sb:(dr d).length≤34359738368) (hn:0<n) (h1:¬ n=1) (h2:¬ d=1) (hg:¬ Nat.gcd n d=1):Calls Tryz.prog 57 #[.int .i64 s,vt,vb] w fun e w'=>∃v,e=.returned v∧Nr w' v (rat b n d)∧Ext w w'∧FrM w vt vb v:=by
 obtain⟨A,k,ca,rfl,hk⟩:=ha.formL;obtain⟨B,l,cb,rfl⟩:=hb.form';have hs0:(s == 0)=false:=by rw [beq_eq_false_iff_ne,←hs];exact sgnB_ne b
 have K0:=ZZ (ab w (.cells #[.int .i64 0,.slice none 0 0,.slice none 0 0] 59));have R0:=ZZ (ae (w.alloc (.cells #[.int .i64 0,.slice none 0 0,.slice none 0 0] 59)));have HA0:=ZZ ha;have HB0:=ZZ hb;have HA:=ZZ (ha.mono K0.out);have HB:=ZZ (hb.mono K0.out);have HS:=ZZ hs;have H0:=ZZ h0;have SA:=ZZ sa;have SB:=ZZ sb;have HK:=ZZ hk;have H1:=ZZ h1;have H2:=ZZ h2;have HG:=ZZ hg;have HGP:=ZZ (show 0<Nat.gcd n d from Nat.gcd_pos_of_pos_left _ hn);clear h1 h2 hg;have HN:=ZZ hn;have hkp:((k:Int) == 0)=false:=by rw [beq_eq_false_iff_ne];intro e;have:=hk.1 (by omega);omega
 clear ha hb hs h0 sa sb hk hn
 go_enter Tryz.func57,Tryz.ntmps57
 go_wp2_with fail;refine(is1_r _ (n) false (by first|exact decide_eq_true H1.out|exact decide_eq_false H1.out) _ HA.out).mono ?_
 rintro e wi ⟨rfl,rfl⟩;go_wp2_with fail;refine(is1_r _ (d) false (by first|exact decide_eq_true H2.out|exact decide_eq_false H2.out) _ HB.out).mono ?_;rintro e wi ⟨rfl,rfl⟩;go_wp2_with fail;refine(divisor_r _ _ n d H0.out _ HA.out HB.out SA.out SB.out).mono ?_;rintro e w2 ⟨v2,rfl,h2,k2⟩;obtain⟨G2,g2,c2,rfl⟩:=h2.form';have H3:=ZZ h2;have K2:=ZZ k2;have HA2:=ZZ (HA.out.mono k2);have HB2:=ZZ (HB.out.mono k2);clear h2 k2;go_wp2_with fail;have SG:=ZZ (show (dr (Nat.gcd n d)).length≤34359738368 from Nat.le_trans (dig_length_mono B30_two (Nat.gcd_le_right _ H0.out)) SB.out);refine(is1_r _ (Nat.gcd n d) false (by first|exact decide_eq_true HG.out|exact decide_eq_false HG.out) _ H3.out).mono ?_;rintro e wi ⟨rfl,rfl⟩;go_wp2_with fail;refine(divided_f _ _ n (Nat.gcd n d) HGP.out _ HA2.out H3.out (by have:=SA.out;omega) (by have:=SG.out;omega)).mono ?_;rintro e w3 ⟨v3,u3,rfl,h3,-,k3,fr⟩;obtain⟨P3,p3,c3,rfl⟩:=h3.form';have H4:=ZZ h3;have FR1:=ZZ fr;clear fr;have K3:=ZZ (al K2.out k3);have HB3:=ZZ (HB2.out.mono k3);have H33:=ZZ (H3.out.mono k3);clear h3 k3;go_wp2_with fail;refine(divided_f _ _ d (Nat.gcd n d) HGP.out _ HB3.out H33.out (by have:=SB.out;omega) (by have:=SG.out;omega)).mono ?_;rintro e w4 ⟨v4,u4,rfl,h4,-,k4,fr⟩;obtain⟨P4,p4,c4,rfl⟩:=h4.form';have H5:=ZZ h4;have FR2:=ZZ fr;clear fr;have K4:=ZZ (al K3.out k4);have H44:=ZZ (H4.out.mono k4);clear h4 k4;obtain⟨z0,z1,z2,f0,f1,f2⟩:=ak (rowR K4.out);go_wp2_with fail
 refine bodyPost_ret (v:=.agg #[.int .i64 s,.slice P3 p3 c3,.slice P4 p4 c4]) (by simp [results,Tryz.f57];go_simp) rfl ?_;refine⟨_,rfl,?_,ap (al K0.out K4.out) (Nat.le_refl _) _ _ _,⟨fun B hB _ _=>frn_mk (FR1.out.mono (Nat.le_trans hB (al K0.out K2.out).size)) (FR2.out.mono (Nat.le_trans hB (al K0.out K3.out).size)),fun C hC _ _=>bln_mk (FR1.out.blc (fun b hb=>hC b (Nat.le_trans (al K0.out K2.out).size hb))) (FR2.out.blc (fun b hb=>hC b (Nat.le_trans (al K0.out K3.out).size hb)))⟩⟩;exact Nr.put_z (nr_mk HS.out HN.out H0.out rfl rfl H44.out H5.out) (rowR K4.out) _ _ _
theorem made_f (b:Bool) (s:Int) (hs:sgnB b=s) (vt vb:Value) (n d:Nat) (h0:0<d) (w:World) (ha:Wr w vt n) (hb:Wr w vb d) (sa:(dr n).length≤34359738368) (sb:(dr d).length≤34359738368):Calls Tryz.prog 57 #[.int .i64 s,vt,vb] w fun e w'=>∃v,e=.returned v∧Nr w' v (rat b n d)∧Ext w w'∧FrM w vt vb v:=by
 rcases Nat.eq_zero_or_pos n with hn|hn
 ·exact made_zero b s hs vt vb n d h0 w ha hb sa sb hn
 ·by_cases h1:n=1
  ·exact made_one b s hs vt vb n d h0 w ha hb sa sb hn h1
  ·by_cases h2:d=1
   ·exact made_whole b s hs vt vb n d h0 w ha hb sa sb hn h1 h2
   ·by_cases hg:Nat.gcd n d=1
    ·exact made_low b s hs vt vb n d h0 w ha hb sa sb hn h1 h2 hg
    ·exact made_red b s hs vt vb n d h0 w ha hb sa sb hn h1 h2 hg
end Go.Proofs.YtkoaakefgacokaaGreatDoor
