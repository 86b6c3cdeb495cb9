/- The program's natural numbers: the greatest common divisor. Numbers: sign, numerator, denominator. Numbers in lowest terms. -/
import Derived.Test.YtjamgccgoapbeaaGreatDoorGWi
import Derived.Deep.LoopGhost
set_option linter.unusedVariables false
set_option maxRecDepth 100000
set_option maxHeartbeats 64000000
namespace Go.Proofs.YtjamgccgoapbeaaGreatDoor
open Go.RowKit
theorem dg_one_word {n:Nat} (h1:(dg n).length=1):(dg n).getD 0 0=n∧n<B64:=by
 have e1:(dg n).getD 0 0=n:=by
  have e:=num_dg n
  match h:dg n,h1 with
  | [d],_=>rw [h] at e;simpa using e
 exact⟨e1,by rw [←e1];exact getD_lt (dg_lt n) (by rw [B64_eq];omega) 0⟩
theorem sm_lt {m n:Nat} (h:m≤n) (k:Sm n):Sm m:=Nat.le_trans (dig_length_mono B64_two h) k
theorem divisor_c (va vb:Value) (m n:Nat) (w:World) (ha:Wd w va m) (hb:Wd w vb n) (sa:Sm m) (sb:Sm n) (hm:0<m):Calls Tryz.prog 107 #[va,vb] w fun e w'=>∃v,e=.returned v∧Wd w' v (Nat.gcd m n)∧Ext w w':=by
 obtain⟨G,hG⟩:∃G,G=Nat.gcd m n:=⟨_,rfl⟩;rw [←hG];have HG:=ZZ hG;have Ha:=ZZ ha;have Hb:=ZZ hb;have Sa:=ZZ sa;have Sb:=ZZ sb;have Hm:=ZZ hm;clear hG ha hb sa sb hm
 go_enter Tryz.func107,Tryz.ntmps107
 go_wp2_with fail
 go_loopg [0,1,5,6] n (fun k a b _ _ wr=>∃m',Wd wr a m'∧Wd wr b k∧0<m'∧Sm m'∧Sm k∧Nat.gcd m' k=G∧Ext w wr)
 case atStart=>exact⟨m,Ha.out,Hb.out,Hm.out,Sa.out,Sb.out,HG.out.symm,ae _⟩
 case round=>
  obtain⟨m',ha,hb,hm,sa,sb,hg,hext⟩:=hrel;have Ha':=ZZ ha;have Hb':=ZZ hb;have Sa':=ZZ sa;have Sb':=ZZ sb;have Hm':=ZZ hm;have Hg':=ZZ hg;have Hext:=ZZ hext;obtain⟨A,ca,rfl,hca,hA⟩:=ha;obtain⟨B,cb,rfl,hcb,hB⟩:=hb;obtain⟨p,hp⟩:∃p,(dg m').length=p:=⟨_,rfl⟩;obtain⟨q,hq⟩:∃q,(dg gk).length=q:=⟨_,rfl⟩;have h1w:=fun h=>dg_one_word (n:=gk) h;have hcl:=fun h:0<(dg gk).length=>hB.u h;have hz:(dg gk).length=0→gk=0:=fun h=>(dig_eq_nil B64_two).1 (List.length_eq_zero_iff.1 h);rw [hq] at hcb hcl h1w hz ⊢;rw [hp] at hca ⊢;have Hp:=ZZ hp;have Hq:=ZZ hq;have H1w:=ZZ h1w;have Hcl:=ZZ hcl;have Hz:=ZZ hz;clear hm sa sb hg hext hA hB hp hq h1w hcl hz
  rcases Nat.lt_or_ge 1 q with h1|h1
  ·have t1:decide ((1:Int)<(q:Int))=true:=by simp;omega
   have hpos:0<gk:=by
    rcases Nat.eq_zero_or_pos gk with h|h
    ·subst h
     have:=Hq.out
     rw [dg_zero] at this
     simp at this;omega
    ·exact h
   have hd:=div_c _ _ m' gk wr Ha'.out Hb'.out Sa'.out Sb'.out hpos;rw [Hp.out,Hq.out] at hd;have Hd:=ZZ hd;have Hpos:=ZZ hpos;clear hd hpos;go_wp2_with fail;refine Hd.out.mono ?_;rintro e w1 ⟨vq,vr,rfl,h2,h3,h4⟩;have H3:=ZZ h3;have H4:=ZZ h4;clear h2 h3 h4;go_wp2_with fail
   go_roundg (m' % gk)
   case measure=>exact Nat.mod_lt _ Hpos.out
   case rel=>
    refine⟨gk,?_,H3.out,Hpos.out,Sb'.out,sm_lt (Nat.le_of_lt (Nat.mod_lt _ Hpos.out)) Sb'.out,?_,am Hext.out H4.out⟩
    ·have:=Hb'.out.mono H4.out
     rw [Hq.out] at this;exact this
    ·rw [Nat.gcd_comm,←Nat.gcd_rec,Nat.gcd_comm];exact Hg'.out
  ·have t1:decide ((1:Int)<(q:Int))=false:=by simp;omega
   rcases Nat.eq_zero_or_pos q with h0|h0
   ·subst h0
    go_wp2_with fail;go_ret
    have h2:=Hg'.out;rw [Hz.out (by first|rfl|trivial),Nat.gcd_zero_right] at h2;refine⟨_,rfl,?_,Hext.out⟩
    have:=Ha'.out
    rw [Hp.out,h2] at this;exact this
   ·have hq1:q=1:=by omega
    subst hq1;obtain⟨bb,ob,rfl,hc⟩:=Hcl.out (by omega);obtain⟨e1,hlt⟩:=H1w.out rfl
    have hcell:wr.cell? ⟨bb,ob,none⟩=some (.int .u64 (gk:Int)):=by
     have:=hc 0 (by omega)
     rw [e1] at this;simpa using this
    have hpos:0<gk:=by
     rcases Nat.eq_zero_or_pos gk with h|h
     ·subst h
      have:=Hq.out
      rw [dg_zero] at this
      simp at this
     ·exact h
    have hd:=by1_c _ m' gk wr Ha'.out Sa'.out hpos hlt;rw [Hp.out] at hd;have Hd:=ZZ hd;have Hpos:=ZZ hpos;have Hlt:=ZZ hlt;clear hd hpos hlt e1 hc;go_wp2_with fail;refine Hd.out.mono ?_;rintro e w1 ⟨⟨vq,r,rfl,hr,-⟩,hx⟩;have hcell1:=ar hx hcell;have Hr:=ZZ hr;have Hx:=ZZ hx;clear hr hx;go_wp2_with fail
    go_loop [8,9] (fun x y=>∃a b:Nat,x=.int .u64 a∧y=.int .u64 b∧Nat.gcd b a=G∧a<b∧b<B64) (fun x _=>(intOf x).toNat)
    case atStart=>exact⟨r,gk,rfl,rfl,by rw [Hr.out,Nat.gcd_comm,←Nat.gcd_rec,Nat.gcd_comm];exact Hg'.out,by rw [Hr.out];exact Nat.mod_lt _ Hpos.out,Hlt.out⟩
    case round=>
     obtain⟨a,b,rfl,rfl,hg,hab,hbB⟩:=hrel;have Hgab:=ZZ hg;have Hab:=ZZ hab;have HbB:=ZZ hbB;clear hg
     rcases Nat.eq_zero_or_pos a with h|h
     ·subst h
      clear hab hbB;go_wp2_with fail;refine(word_c b HbB.out _).mono ?_;rintro e w2 ⟨v,rfl,h5,h6⟩;have H5:=ZZ h5;have H6:=ZZ h6;clear h5 h6;go_wp2_with fail;go_ret;have h2:=Hgab.out;rw [Nat.gcd_zero_right] at h2;refine⟨_,rfl,?_,am Hext.out (am Hx.out H6.out)⟩;rw [←h2];exact H5.out
     ·have t2:((a:Int) != 0)=true:=by simp;omega
      have t3:((a:Int) == 0)=false:=by simp;omega
      obtain⟨c,hc⟩:∃c,c=b % a:=⟨_,rfl⟩;have hca':c<a:=by rw [hc];exact Nat.mod_lt _ h
      have hw:(b:Int) % (a:Int)=(c:Int):=by rw [hc];simp
      have Hc:Hid (Nat.gcd a c=G):=by
       show _=_
       rw [hc,Nat.gcd_comm,←Nat.gcd_rec,Nat.gcd_comm];exact Hgab.out
      have Hca:=ZZ hca';clear hab hbB hc hca';go_wp2_with fail
      go_round
      case rel=>exact⟨c,a,by rw [hw],rfl,Hc.out,Hca.out,Nat.lt_trans Hab.out HbB.out⟩
      case measure=>
       show (intOf (Value.int _ ((b:Int) % (a:Int)))).toNat<_
       rw [hw];simp [intOf];exact Hca.out
end Go.Proofs.YtjamgccgoapbeaaGreatDoor
set_option linter.unusedVariables false
set_option maxRecDepth 100000
set_option maxHeartbeats 64000000
namespace Go.Proofs.YtjamgccgoapbeaaGreatDoor
open Go.RowKit
def sg (b:Bool) (n:Nat):Int:=if b then -(n:Int) else n
def rat (b:Bool) (n d:Nat):Rat:=mkRat (sg b n) d
theorem sg_natAbs (b n):(sg b n).natAbs=n:=by unfold sg;split <;> simp
theorem rat_natAbs (b:Bool) (n d:Nat) (hd:d≠0):(rat b n d).num.natAbs=n / Nat.gcd n d:=by
 unfold rat;rw [Rat.num_mkRat,if_neg hd,sg_natAbs,Nat.gcd_comm];unfold sg
 split
 ·rw [Int.natAbs_ediv_of_dvd (by rw [Int.dvd_neg];exact Int.natCast_dvd_natCast.2 (Nat.gcd_dvd_left n d))]
  simp
 ·rw [Int.natAbs_ediv_of_dvd (Int.natCast_dvd_natCast.2 (Nat.gcd_dvd_left n d))];simp
theorem rat_den (b:Bool) (n d:Nat) (hd:d≠0):(rat b n d).den=d / Nat.gcd n d:=by
 unfold rat;rw [Rat.den_mkRat,if_neg hd,sg_natAbs,Nat.gcd_comm]
theorem rat_neg (b:Bool) (n d:Nat) (hd:d≠0) (hn:0<n):decide ((rat b n d).num<0)=b:=by
 have h1:(rat b n d).num<0↔b=true:=by
  have h:=Rat.num_mkRat (sg b n) d;unfold rat;rw [h,if_neg hd];have hg:0<Nat.gcd d (sg b n).natAbs:=Nat.gcd_pos_of_pos_left _ (by omega)
  cases b
  ·simp only [Bool.false_eq_true,iff_false,Int.not_lt]
   exact Int.ediv_nonneg (by unfold sg;simp) (by omega)
  ·simp only [iff_true]
   have hlt:sg true n<0:=by unfold sg;simp;omega
   exact Int.ediv_neg_of_neg_of_pos hlt (by exact_mod_cast hg)
 cases b
 ·simpa using h1
 ·simpa using h1
theorem rat_zero (b:Bool) (d:Nat):rat b 0 d=0:=by
 unfold rat sg
 cases b <;> simp
theorem rat_self (q:Rat):rat (decide (q.num<0)) q.num.natAbs q.den=q:=by
 unfold rat
 have:sg (decide (q.num<0)) q.num.natAbs=q.num:=by
  unfold sg
  split
  ·rename_i h
   simp only [decide_eq_true_eq] at h
   omega
  ·rename_i h
   simp only [decide_eq_true_eq] at h
   omega
 rw [this];exact Rat.mkRat_self q
def dn (q:Rat):Nat:=if q.den=1 then 0 else q.den
def Nm (w:World) (v:Value) (q:Rat):Prop:=∃vn vd,v=.agg #[.bool (decide (q.num<0)),vn,vd]∧Wd w vn q.num.natAbs∧Wd w vd (dn q)
theorem Nm.mono {w w':World} {v:Value} {q:Rat} (h:Nm w v q) (k:Ext w w'):Nm w' v q:=by
 obtain⟨vn,vd,e,h1,h2⟩:=h;exact⟨vn,vd,e,h1.mono k,h2.mono k⟩
theorem Nm.zero (w:World):Nm w (.agg #[.bool false,.slice none 0 0,.slice none 0 0]) 0:=⟨_,_,rfl,Wd.zero w,Wd.zero w⟩
end Go.Proofs.YtjamgccgoapbeaaGreatDoor
set_option linter.unusedVariables false
set_option maxRecDepth 100000
set_option maxHeartbeats 64000000
namespace Go.Proofs.YtjamgccgoapbeaaGreatDoor
open Go.RowKit
theorem Wd.form {w:World} {v:Value} {n:Nat} (h:Wd w v n):∃A c,v=.slice A (dg n).length c:=by
 obtain⟨A,c,e,-⟩:=h;exact⟨A,c,e⟩
theorem Wd.form' {w:World} {v:Value} {n:Nat} (h:Wd w v n):∃A k c,v=.slice A k c:=by
 obtain⟨A,c,e,-⟩:=h;exact⟨A,_,c,e⟩
theorem row3 {w W:World} {x y z:Value} (h:Ext (w.alloc (.cells #[x,y,z] 35)) W):W.heap[w.heap.size]?=some (.cells #[x,y,z] 35 (0,0)):=
 (h.block _ (by simp)).trans (heap_alloc_new w _)
theorem aj {W:World} {g:Nat} {x y z:Value} {T:TypeId} (h:W.heap[g]?=some (.cells #[x,y,z] T (0,0))):W.cell? ⟨g,0,none⟩=some x∧W.cell? ⟨g,1,none⟩=some y∧W.cell? ⟨g,2,none⟩=some z∧W.frozen? ⟨g,0,none⟩=false∧W.frozen? ⟨g,1,none⟩=false∧W.frozen? ⟨g,2,none⟩=false:=by
 refine⟨?_,?_,?_,?_,?_,?_⟩ <;> simp [World.cell?,World.frozen?,h]
theorem nm_mk {W:World} {b:Bool} {vn vd:Value} {n d n' d':Nat} {q:Rat} (hq:q=rat b n d) (hn:0<n) (hd:0<d) (h1:n'=n / Nat.gcd n d) (h2:d'=d / Nat.gcd n d) (ha:Wd W vn n') (hb:Wd W vd (if d'=1 then 0 else d')):Nm W (.agg #[.bool b,vn,vd]) q:=by
 subst hq;have e1:=rat_natAbs b n d (by omega);have e2:=rat_den b n d (by omega);refine⟨vn,vd,by rw [rat_neg b n d (by omega) hn],by rw [e1,←h1];exact ha,?_⟩;unfold dn;rw [e2,←h2];exact hb
theorem Wd.put3 {W:World} {v:Value} {n g:Nat} {b0:Bool} {A0 B0:Option Addr} {k0 c0 k1 c1:Nat} {T:TypeId} (h:Wd W v n) (hg:W.heap[g]?=some (.cells #[.bool b0,.slice A0 k0 c0,.slice B0 k1 c1] T (0,0))) (a b c:Value):Wd (((W.setCell ⟨g,0,none⟩ a).setCell ⟨g,1,none⟩ b).setCell ⟨g,2,none⟩ c) v n:=by
 obtain⟨A,cc,e,hc,hcl⟩:=h;refine⟨A,cc,e,hc,?_⟩
 rcases Nat.eq_zero_or_pos (dg n).length with h0|h0
 ·left;rw [List.length_eq_zero_iff.1 h0];rfl
 ·obtain⟨bl,o,hA,hce⟩:=hcl.at_ (by simpa using h0)
  right
  refine⟨bl,o,hA,fun j hj=>?_⟩;have hj':j<(dg n).length:=by simpa using hj
  have h1:=hce j hj
  have hne:bl≠g:=by
   intro hb;subst hb;rw [getD_map_u64 _ _ hj'] at h1
   simp only [World.cell?,hg] at h1
   rcases Nat.lt_or_ge (o+j) 3 with h3|h3
   ·rcases(show o+j=0∨o+j=1∨o+j=2 by omega) with e|e|e <;> rw [e] at h1 <;> simp at h1
   ·rw [Array.getElem?_eq_none (by simpa using h3)] at h1
    simp at h1
  rw [←h1]
  apply World.cell?_of_block
  rw [Below.heap_setCell _ _ _ _ hne,Below.heap_setCell _ _ _ _ hne,Below.heap_setCell _ _ _ _ hne]
theorem ap {w W:World} {g:Nat} (h:Ext w W) (hg:w.heap.size≤g) (a b c:Value):Ext w (((W.setCell ⟨g,0,none⟩ a).setCell ⟨g,1,none⟩ b).setCell ⟨g,2,none⟩ c):=
 ((h.setCell hg _).setCell hg _).setCell hg _
theorem reduced_c (b:Bool) (vn vd:Value) (n d:Nat) (w:World) (ha:Wd w vn n) (hb:Wd w vd d) (sa:Sm n) (sb:Sm d) (hd:0<d):Calls Tryz.prog 57 #[.bool b,vn,vd] w fun e w'=>∃v,e=.returned v∧Nm w' v (rat b n d)∧Ext w w':=by
 obtain⟨A,ca,rfl⟩:=ha.form;obtain⟨B,q,cb,rfl⟩:=hb.form';have Hb:=ZZ hb;have Sa:=ZZ sa;have Sb:=ZZ sb;have Hd:=ZZ hd;obtain⟨p,hp⟩:∃p,(dg n).length=p:=⟨_,rfl⟩
 have hz:n=0↔p=0:=by
  rw [←hp,List.length_eq_zero_iff];exact(dig_eq_nil B64_two).symm
 rw [hp] at ha ⊢;have Ha:=ZZ ha;clear hp ha hb sa sb hd
 rcases Nat.eq_zero_or_pos p with h|h
 ·have hn:n=0:=hz.2 h
  subst hn;subst h;clear hz
  go_enter Tryz.func57,Tryz.ntmps57
  go_wp2_with fail;refine bodyPost_ret (v:=.agg #[.bool false,.slice none 0 0,.slice none 0 0]) (by simp [results,Tryz.f57];go_simp) rfl ?_
  exact⟨_,rfl,by rw [rat_zero];exact Nm.zero _,ab _ _⟩
 ·have t1:((p:Int) == 0)=false:=by simp;omega
  have hn:0<n:=by
   rcases Nat.eq_zero_or_pos n with h'|h'
   ·have:=hz.1 h';omega
   ·exact h'
  have Hn:=ZZ hn;clear hz hn
  go_enter Tryz.func57,Tryz.ntmps57
  go_wp2_with fail
  rcases hn1:decide (n=1) with _|_
  ·refine(is1_c _ n false hn1 _ (Ha.out.mono (ab _ _))).mono ?_
   rintro e w1 ⟨rfl,rfl⟩;have Hn1:=ZZ (show ¬ n=1 by simpa using hn1);clear hn1;go_wp2_with fail
   rcases hd0:decide (d=1) with _|_
   ·refine(is1_c _ d false hd0 _ (Hb.out.mono (ab _ _))).mono ?_
    rintro e w1 ⟨rfl,rfl⟩;have Hd0:=ZZ (show ¬ d=1 by simpa using hd0);clear hd0;go_wp2_with fail;refine(divisor_c _ _ n d _ (Ha.out.mono (ab _ _)) (Hb.out.mono (ab _ _)) Sa.out Sb.out Hn.out).mono ?_;rintro e w2 ⟨vg,rfl,hvg,hx2⟩;have hgd:Nat.gcd n d≤n:=Nat.gcd_le_left _ Hn.out;have hgp:0<Nat.gcd n d:=Nat.gcd_pos_of_pos_left _ Hn.out;obtain⟨G,kg,cg,rfl⟩:=hvg.form';have Hvg:=ZZ hvg;have Hx2:=ZZ hx2;have Hgd:=ZZ hgd;have Hgp:=ZZ hgp;clear hvg hx2 hgd hgp;go_wp2_with fail
    rcases hg1:decide (Nat.gcd n d=1) with _|_
    ·refine(is1_c _ _ false hg1 _ Hvg.out).mono ?_
     rintro e w3 ⟨rfl,rfl⟩;clear hg1;go_wp2_with fail;refine(div_c _ _ n (Nat.gcd n d) _ ((Ha.out.mono (ab w (.cells #[.bool false,.slice none 0 0,.slice none 0 0] 35))).mono Hx2.out) Hvg.out Sa.out (sm_lt Hgd.out Sa.out) Hgp.out).mono ?_;rintro e w3 ⟨q1,r1,rfl,hq1,-,hx3⟩;obtain⟨Q1,k1,c1,rfl⟩:=hq1.form';have Hq1:=ZZ hq1;have Hx3:=ZZ hx3;clear hq1 hx3;go_wp2_with fail;refine(div_c _ _ d (Nat.gcd n d) _ (((Hb.out.mono (ab w (.cells #[.bool false,.slice none 0 0,.slice none 0 0] 35))).mono Hx2.out).mono Hx3.out) (Hvg.out.mono Hx3.out) Sb.out (sm_lt Hgd.out Sa.out) Hgp.out).mono ?_;rintro e w4 ⟨q2,r2,rfl,hq2,-,hx4⟩;obtain⟨Q2,k2,c2,rfl⟩:=hq2.form';have HB:=ZZ hq2;have HA:=ZZ (Hq1.out.mono hx4);have Hx:=ZZ (am Hx2.out (am Hx3.out hx4));clear hq2 hx4;go_wp2_with fail;have hrow:=row3 Hx.out;obtain⟨hc0,hc1,hc2,hf0,hf1,hf2⟩:=aj hrow;have Hrow:=ZZ hrow;have Hxw:=ZZ (am (ab w (.cells #[.bool false,.slice none 0 0,.slice none 0 0] 35)) Hx.out);clear hrow
     rcases hd1:decide (d / Nat.gcd n d=1) with _|_
     ·refine(is1_c _ (d / Nat.gcd n d) false hd1 _ HB.out).mono ?_
      rintro e w9 ⟨rfl,rfl⟩;have Hd1:=ZZ (show ¬(d / Nat.gcd n d)=1 by simpa using hd1);clear hd1;go_wp2_with fail;refine bodyPost_ret (v:=.agg #[.bool b,.slice Q1 k1 c1,.slice Q2 k2 c2]) (by simp [results,Tryz.f57];go_simp) rfl ?_;exact⟨_,rfl,nm_mk (n':=n / Nat.gcd n d) (d':=d / Nat.gcd n d) rfl Hn.out Hd.out rfl rfl (HA.out.put3 Hrow.out _ _ _) (by rw [if_neg Hd1.out];exact(HB.out.put3 Hrow.out _ _ _)),ap Hxw.out (Nat.le_refl _) _ _ _⟩
     ·refine(is1_c _ (d / Nat.gcd n d) true hd1 _ HB.out).mono ?_
      rintro e w9 ⟨rfl,rfl⟩;have Hd1:=ZZ (show (d / Nat.gcd n d)=1 by simpa using hd1);clear hd1;go_wp2_with fail;refine bodyPost_ret (v:=.agg #[.bool b,.slice Q1 k1 c1,.slice none 0 0]) (by simp [results,Tryz.f57];go_simp) rfl ?_;exact⟨_,rfl,nm_mk (n':=n / Nat.gcd n d) (d':=d / Nat.gcd n d) rfl Hn.out Hd.out rfl rfl (HA.out.put3 Hrow.out _ _ _) (by rw [if_pos Hd1.out];exact Wd.zero _),ap Hxw.out (Nat.le_refl _) _ _ _⟩
    ·have Hg1:=ZZ (show Nat.gcd n d=1 by simpa using hg1)
     refine(is1_c _ _ true hg1 _ Hvg.out).mono ?_;rintro e w3 ⟨rfl,rfl⟩;clear hg1;go_wp2_with fail;have Hx:=ZZ Hx2.out;have HA:=ZZ ((Ha.out.mono (ab w (.cells #[.bool false,.slice none 0 0,.slice none 0 0] 35))).mono Hx2.out);have HB:=ZZ ((Hb.out.mono (ab w (.cells #[.bool false,.slice none 0 0,.slice none 0 0] 35))).mono Hx2.out);have hrow:=row3 Hx.out;obtain⟨hc0,hc1,hc2,hf0,hf1,hf2⟩:=aj hrow;have Hrow:=ZZ hrow;have Hxw:=ZZ (am (ab w (.cells #[.bool false,.slice none 0 0,.slice none 0 0] 35)) Hx.out);clear hrow
     rcases hd1:decide (d=1) with _|_
     ·refine(is1_c _ (d) false hd1 _ HB.out).mono ?_
      rintro e w9 ⟨rfl,rfl⟩;have Hd1:=ZZ (show ¬(d)=1 by simpa using hd1);clear hd1;go_wp2_with fail;refine bodyPost_ret (v:=.agg #[.bool b,.slice A p ca,.slice B q cb]) (by simp [results,Tryz.f57];go_simp) rfl ?_;exact⟨_,rfl,nm_mk (n':=n) (d':=d) rfl Hn.out Hd.out (by rw [Hg1.out,Nat.div_one]) (by rw [Hg1.out,Nat.div_one]) (HA.out.put3 Hrow.out _ _ _) (by rw [if_neg Hd1.out];exact(HB.out.put3 Hrow.out _ _ _)),ap Hxw.out (Nat.le_refl _) _ _ _⟩
     ·refine(is1_c _ (d) true hd1 _ HB.out).mono ?_
      rintro e w9 ⟨rfl,rfl⟩;have Hd1:=ZZ (show (d)=1 by simpa using hd1);clear hd1;go_wp2_with fail;refine bodyPost_ret (v:=.agg #[.bool b,.slice A p ca,.slice none 0 0]) (by simp [results,Tryz.f57];go_simp) rfl ?_;exact⟨_,rfl,nm_mk (n':=n) (d':=d) rfl Hn.out Hd.out (by rw [Hg1.out,Nat.div_one]) (by rw [Hg1.out,Nat.div_one]) (HA.out.put3 Hrow.out _ _ _) (by rw [if_pos Hd1.out];exact Wd.zero _),ap Hxw.out (Nat.le_refl _) _ _ _⟩
   ·refine(is1_c _ d true hd0 _ (Hb.out.mono (ab _ _))).mono ?_
    rintro e w1 ⟨rfl,rfl⟩;have Hd0:=ZZ (show d=1 by simpa using hd0);clear hd0;go_wp2_with fail;have Hx:Hid (Ext _ _):=ae (w.alloc (.cells #[.bool false,.slice none 0 0,.slice none 0 0] 35));have HA:Hid (Wd _ _ _):=Ha.out.mono (ab w (.cells #[.bool false,.slice none 0 0,.slice none 0 0] 35));have HB:Hid (Wd _ _ _):=Hb.out.mono (ab w (.cells #[.bool false,.slice none 0 0,.slice none 0 0] 35));have hrow:=row3 Hx.out;obtain⟨hc0,hc1,hc2,hf0,hf1,hf2⟩:=aj hrow;have Hrow:=ZZ hrow;have Hxw:=ZZ (am (ab w (.cells #[.bool false,.slice none 0 0,.slice none 0 0] 35)) Hx.out);clear hrow
    rcases hd1:decide (d=1) with _|_
    ·refine(is1_c _ (d) false hd1 _ HB.out).mono ?_
     rintro e w9 ⟨rfl,rfl⟩;have Hd1:=ZZ (show ¬(d)=1 by simpa using hd1);clear hd1;go_wp2_with fail;refine bodyPost_ret (v:=.agg #[.bool b,.slice A p ca,.slice B q cb]) (by simp [results,Tryz.f57];go_simp) rfl ?_;exact⟨_,rfl,nm_mk (n':=n) (d':=d) rfl Hn.out Hd.out (by rw [Hd0.out,Nat.gcd_one_right,Nat.div_one]) (by rw [Hd0.out,Nat.gcd_one_right,Nat.div_one]) (Ha.out.mono (ab _ _)) (by rw [if_neg Hd1.out];exact(Hb.out.mono (ab _ _))),ab _ _⟩
    ·refine(is1_c _ (d) true hd1 _ HB.out).mono ?_
     rintro e w9 ⟨rfl,rfl⟩;have Hd1:=ZZ (show (d)=1 by simpa using hd1);clear hd1;go_wp2_with fail;refine bodyPost_ret (v:=.agg #[.bool b,.slice A p ca,.slice none 0 0]) (by simp [results,Tryz.f57];go_simp) rfl ?_;exact⟨_,rfl,nm_mk (n':=n) (d':=d) rfl Hn.out Hd.out (by rw [Hd0.out,Nat.gcd_one_right,Nat.div_one]) (by rw [Hd0.out,Nat.gcd_one_right,Nat.div_one]) (Ha.out.mono (ab _ _)) (by rw [if_pos Hd1.out];exact Wd.zero _),ab _ _⟩
  ·refine(is1_c _ n true hn1 _ (Ha.out.mono (ab _ _))).mono ?_
   rintro e w1 ⟨rfl,rfl⟩;have Hn1:=ZZ (show n=1 by simpa using hn1);clear hn1;go_wp2_with fail;have Hx:Hid (Ext _ _):=ae (w.alloc (.cells #[.bool false,.slice none 0 0,.slice none 0 0] 35));have HA:Hid (Wd _ _ _):=Ha.out.mono (ab w (.cells #[.bool false,.slice none 0 0,.slice none 0 0] 35));have HB:Hid (Wd _ _ _):=Hb.out.mono (ab w (.cells #[.bool false,.slice none 0 0,.slice none 0 0] 35));have hrow:=row3 Hx.out;obtain⟨hc0,hc1,hc2,hf0,hf1,hf2⟩:=aj hrow;have Hrow:=ZZ hrow;have Hxw:=ZZ (am (ab w (.cells #[.bool false,.slice none 0 0,.slice none 0 0] 35)) Hx.out);clear hrow
   rcases hd1:decide (d=1) with _|_
   ·refine(is1_c _ (d) false hd1 _ HB.out).mono ?_
    rintro e w9 ⟨rfl,rfl⟩;have Hd1:=ZZ (show ¬(d)=1 by simpa using hd1);clear hd1;go_wp2_with fail;refine bodyPost_ret (v:=.agg #[.bool b,.slice A p ca,.slice B q cb]) (by simp [results,Tryz.f57];go_simp) rfl ?_;exact⟨_,rfl,nm_mk (n':=n) (d':=d) rfl Hn.out Hd.out (by rw [Hn1.out,Nat.gcd_one_left]) (by rw [Hn1.out,Nat.gcd_one_left,Nat.div_one]) (Ha.out.mono (ab _ _)) (by rw [if_neg Hd1.out];exact(Hb.out.mono (ab _ _))),ab _ _⟩
   ·refine(is1_c _ (d) true hd1 _ HB.out).mono ?_
    rintro e w9 ⟨rfl,rfl⟩;have Hd1:=ZZ (show (d)=1 by simpa using hd1);clear hd1;go_wp2_with fail;refine bodyPost_ret (v:=.agg #[.bool b,.slice A p ca,.slice none 0 0]) (by simp [results,Tryz.f57];go_simp) rfl ?_;exact⟨_,rfl,nm_mk (n':=n) (d':=d) rfl Hn.out Hd.out (by rw [Hn1.out,Nat.gcd_one_left]) (by rw [Hn1.out,Nat.gcd_one_left,Nat.div_one]) (Ha.out.mono (ab _ _)) (by rw [if_pos Hd1.out];exact Wd.zero _),ab _ _⟩
end Go.Proofs.YtjamgccgoapbeaaGreatDoor
