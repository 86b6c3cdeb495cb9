/- The program's natural numbers: the greatest common divisor. Numbers: sign, numerator, denominator. Plain laws of numbers with sign, numerator and denominator. Plain laws of decimal numerals. Sizes of numbers. -/
import Derived.Test.YtpgdefgdboijlaaGreatDoorWi
import Derived.Deep.LoopGhost
import Derived.Lib.ItoaNum
set_option linter.unusedVariables false
set_option maxRecDepth 100000
set_option maxHeartbeats 16000000
namespace Go.Proofs.YtpgdefgdboijlaaGreatDoor
open Go.RowKit
theorem dg_one_word {n:Nat} (h1:(dg n).length=1):(dg n).getD 0 0=n∧n<B64:=by
 have e1:(dg n).getD 0 0=n:=by
  have e:=num_dg n
  match h:dg n,h1 with
  | [d],_=>rw [h] at e;simpa using e
 exact⟨e1,by rw [←e1];exact getD_lt (dg_lt n) (by rw [B64_eq];omega) 0⟩
theorem sm_lt {m n:Nat} (h:m≤n) (k:Sm n):Sm m:=Nat.le_trans (dig_length_mono B64_two h) k
theorem divisor_c (va vb:Value) (m n:Nat) (w:World) (ha:Wd w va m) (hb:Wd w vb n) (sa:Sm m) (sb:Sm n) (hm:0<m):Calls Tryz.prog 132 #[va,vb] w fun e w'=>∃v,e=.returned v∧Wd w' v (Nat.gcd m n)∧Ext w w':=by
 obtain⟨G,hG⟩:∃G,G=Nat.gcd m n:=⟨_,rfl⟩;rw [←hG];have HG:=ZZ hG;have Ha:=ZZ ha;have Hb:=ZZ hb;have Sa:=ZZ sa;have Sb:=ZZ sb;have Hm:=ZZ hm;clear hG ha hb sa sb hm
 go_enter Tryz.func132,Tryz.ntmps132
 go_wp2_with fail
 go_loopg [0,1,5,6] n (fun k a b _ _ wr=>∃m',Wd wr a m'∧Wd wr b k∧0<m'∧Sm m'∧Sm k∧Nat.gcd m' k=G∧Ext w wr)
 case atStart=>exact⟨m,Ha.out,Hb.out,Hm.out,Sa.out,Sb.out,HG.out.symm,ad _⟩
 case round=>
  obtain⟨m',ha,hb,hm,sa,sb,hg,hext⟩:=hrel;have Ha':=ZZ ha;have Hb':=ZZ hb;have Sa':=ZZ sa;have Sb':=ZZ sb;have Hm':=ZZ hm;have Hg':=ZZ hg;have Hext:=ZZ hext;obtain⟨A,ca,rfl,hca,hA⟩:=ha;obtain⟨B,cb,rfl,hcb,hB⟩:=hb;obtain⟨p,hp⟩:∃p,(dg m').length=p:=⟨_,rfl⟩;obtain⟨q,hq⟩:∃q,(dg gk).length=q:=⟨_,rfl⟩;have h1w:=fun h=>dg_one_word (n:=gk) h;have hcl:=fun h:0<(dg gk).length=>hB.u h;have hz:(dg gk).length=0→gk=0:=fun h=>(dig_eq_nil B64_two).1 (List.length_eq_zero_iff.1 h);rw [hq] at hcb hcl h1w hz ⊢;rw [hp] at hca ⊢;have Hp:=ZZ hp;have Hq:=ZZ hq;have H1w:=ZZ h1w;have Hcl:=ZZ hcl;have Hz:=ZZ hz;clear hm sa sb hg hext hA hB hp hq h1w hcl hz
  rcases Nat.lt_or_ge 1 q with h1|h1
  ·have t1:decide ((1:Int)<(q:Int))=true:=by simp;omega
   have hpos:0<gk:=by
    rcases Nat.eq_zero_or_pos gk with h|h
    ·subst h
     have:=Hq.out
     rw [dg_zero] at this
     simp at this;omega
    ·exact h
   have hd:=div_c _ _ m' gk wr Ha'.out Hb'.out Sa'.out Sb'.out hpos;rw [Hp.out,Hq.out] at hd;have Hd:=ZZ hd;have Hpos:=ZZ hpos;clear hd hpos;go_wp2_with fail;refine Hd.out.mono ?_;rintro e w1 ⟨vq,vr,rfl,h2,h3,h4⟩;have H3:=ZZ h3;have H4:=ZZ h4;clear h2 h3 h4;go_wp2_with fail
   go_roundg (m' % gk)
   case measure=>exact Nat.mod_lt _ Hpos.out
   case rel=>
    refine⟨gk,?_,H3.out,Hpos.out,Sb'.out,sm_lt (Nat.le_of_lt (Nat.mod_lt _ Hpos.out)) Sb'.out,?_,al Hext.out H4.out⟩
    ·have:=Hb'.out.mono H4.out
     rw [Hq.out] at this;exact this
    ·rw [Nat.gcd_comm,←Nat.gcd_rec,Nat.gcd_comm];exact Hg'.out
  ·have t1:decide ((1:Int)<(q:Int))=false:=by simp;omega
   rcases Nat.eq_zero_or_pos q with h0|h0
   ·subst h0
    go_wp2_with fail;go_ret
    have h2:=Hg'.out;rw [Hz.out (by first|rfl|trivial),Nat.gcd_zero_right] at h2;refine⟨_,rfl,?_,Hext.out⟩
    have:=Ha'.out
    rw [Hp.out,h2] at this;exact this
   ·have hq1:q=1:=by omega
    subst hq1;obtain⟨bb,ob,rfl,hc⟩:=Hcl.out (by omega);obtain⟨e1,hlt⟩:=H1w.out rfl
    have hcell:wr.cell? ⟨bb,ob,none⟩=some (.int .u64 (gk:Int)):=by
     have:=hc 0 (by omega)
     rw [e1] at this;simpa using this
    have hpos:0<gk:=by
     rcases Nat.eq_zero_or_pos gk with h|h
     ·subst h
      have:=Hq.out
      rw [dg_zero] at this
      simp at this
     ·exact h
    have hd:=by1_c _ m' gk wr Ha'.out Sa'.out hpos hlt;rw [Hp.out] at hd;have Hd:=ZZ hd;have Hpos:=ZZ hpos;have Hlt:=ZZ hlt;clear hd hpos hlt e1 hc;go_wp2_with fail;refine Hd.out.mono ?_;rintro e w1 ⟨⟨vq,r,rfl,hr,-⟩,hx⟩;have hcell1:=aq hx hcell;have Hr:=ZZ hr;have Hx:=ZZ hx;clear hr hx;go_wp2_with fail
    go_loop [8,9] (fun x y=>∃a b:Nat,x=.int .u64 a∧y=.int .u64 b∧Nat.gcd b a=G∧a<b∧b<B64) (fun x _=>(intOf x).toNat)
    case atStart=>exact⟨r,gk,rfl,rfl,by rw [Hr.out,Nat.gcd_comm,←Nat.gcd_rec,Nat.gcd_comm];exact Hg'.out,by rw [Hr.out];exact Nat.mod_lt _ Hpos.out,Hlt.out⟩
    case round=>
     obtain⟨a,b,rfl,rfl,hg,hab,hbB⟩:=hrel;have Hgab:=ZZ hg;have Hab:=ZZ hab;have HbB:=ZZ hbB;clear hg
     rcases Nat.eq_zero_or_pos a with h|h
     ·subst h
      clear hab hbB;go_wp2_with fail;refine(word_c b HbB.out _).mono ?_;rintro e w2 ⟨v,rfl,h5,h6⟩;have H5:=ZZ h5;have H6:=ZZ h6;clear h5 h6;go_wp2_with fail;go_ret;have h2:=Hgab.out;rw [Nat.gcd_zero_right] at h2;refine⟨_,rfl,?_,al Hext.out (al Hx.out H6.out)⟩;rw [←h2];exact H5.out
     ·have t2:((a:Int) != 0)=true:=by simp;omega
      have t3:((a:Int) == 0)=false:=by simp;omega
      obtain⟨c,hc⟩:∃c,c=b % a:=⟨_,rfl⟩;have hca':c<a:=by rw [hc];exact Nat.mod_lt _ h
      have hw:(b:Int) % (a:Int)=(c:Int):=by rw [hc];simp
      have Hc:Hid (Nat.gcd a c=G):=by
       show _=_
       rw [hc,Nat.gcd_comm,←Nat.gcd_rec,Nat.gcd_comm];exact Hgab.out
      have Hca:=ZZ hca';clear hab hbB hc hca';go_wp2_with fail
      go_round
      case rel=>exact⟨c,a,by rw [hw],rfl,Hc.out,Hca.out,Nat.lt_trans Hab.out HbB.out⟩
      case measure=>
       show (intOf (Value.int _ ((b:Int) % (a:Int)))).toNat<_
       rw [hw];simp [intOf];exact Hca.out
end Go.Proofs.YtpgdefgdboijlaaGreatDoor
namespace Go.Proofs.YtpgdefgdboijlaaGreatDoor
open Go.RowKit
def sg (b:Bool) (n:Nat):Int:=if b then -(n:Int) else n
def rat (b:Bool) (n d:Nat):Rat:=mkRat (sg b n) d
theorem sg_natAbs (b n):(sg b n).natAbs=n:=by unfold sg;split <;> simp
theorem rat_natAbs (b:Bool) (n d:Nat) (hd:d≠0):(rat b n d).num.natAbs=n / Nat.gcd n d:=by
 unfold rat;rw [Rat.num_mkRat,if_neg hd,sg_natAbs,Nat.gcd_comm];unfold sg
 split
 ·rw [Int.natAbs_ediv_of_dvd (by rw [Int.dvd_neg];exact Int.natCast_dvd_natCast.2 (Nat.gcd_dvd_left n d))]
  simp
 ·rw [Int.natAbs_ediv_of_dvd (Int.natCast_dvd_natCast.2 (Nat.gcd_dvd_left n d))];simp
theorem rat_den (b:Bool) (n d:Nat) (hd:d≠0):(rat b n d).den=d / Nat.gcd n d:=by
 unfold rat;rw [Rat.den_mkRat,if_neg hd,sg_natAbs,Nat.gcd_comm]
theorem rat_neg (b:Bool) (n d:Nat) (hd:d≠0) (hn:0<n):decide ((rat b n d).num<0)=b:=by
 have h1:(rat b n d).num<0↔b=true:=by
  have h:=Rat.num_mkRat (sg b n) d;unfold rat;rw [h,if_neg hd];have hg:0<Nat.gcd d (sg b n).natAbs:=Nat.gcd_pos_of_pos_left _ (by omega)
  cases b
  ·simp only [Bool.false_eq_true,iff_false,Int.not_lt]
   exact Int.ediv_nonneg (by unfold sg;simp) (by omega)
  ·simp only [iff_true]
   have hlt:sg true n<0:=by unfold sg;simp;omega
   exact Int.ediv_neg_of_neg_of_pos hlt (by exact_mod_cast hg)
 cases b
 ·simpa using h1
 ·simpa using h1
theorem rat_zero (b:Bool) (d:Nat):rat b 0 d=0:=by
 unfold rat sg
 cases b <;> simp
theorem rat_self (q:Rat):rat (decide (q.num<0)) q.num.natAbs q.den=q:=by
 unfold rat
 have:sg (decide (q.num<0)) q.num.natAbs=q.num:=by
  unfold sg
  split
  ·rename_i h
   simp only [decide_eq_true_eq] at h
   omega
  ·rename_i h
   simp only [decide_eq_true_eq] at h
   omega
 rw [this];exact Rat.mkRat_self q
def dn (q:Rat):Nat:=if q.den=1 then 0 else q.den
def Nm (w:World) (v:Value) (q:Rat):Prop:=∃vn vd,v=.agg #[.bool (decide (q.num<0)),vn,vd]∧Wd w vn q.num.natAbs∧Wd w vd (dn q)
theorem Nm.mono {w w':World} {v:Value} {q:Rat} (h:Nm w v q) (k:Ext w w'):Nm w' v q:=by
 obtain⟨vn,vd,e,h1,h2⟩:=h;exact⟨vn,vd,e,h1.mono k,h2.mono k⟩
theorem Nm.zero (w:World):Nm w (.agg #[.bool false,.slice none 0 0,.slice none 0 0]) 0:=⟨_,_,rfl,Wd.zero w,Wd.zero w⟩
end Go.Proofs.YtpgdefgdboijlaaGreatDoor
namespace Go.Proofs.YtpgdefgdboijlaaGreatDoor
open Go.RowKit
theorem sg_mul (a b:Bool) (n m:Nat):sg a n*sg b m=sg (a != b) (n*m):=by
 cases a <;> cases b <;> simp [sg,Int.neg_mul,Int.mul_neg]
theorem rat_mul (a b:Bool) (n m d e:Nat):rat a n d*rat b m e=rat (a != b) (n*m) (d*e):=by
 unfold rat;rw [Rat.mkRat_mul_mkRat,sg_mul]
theorem sg_mul_nat (a:Bool) (n m:Nat):sg a n*(m:Int)=sg a (n*m):=by
 cases a <;> simp [sg,Int.neg_mul]
theorem sg_add (a:Bool) (n m:Nat):sg a n+sg a m=sg a (n+m):=by
 cases a <;> simp [sg] <;> omega
theorem sg_not (a:Bool) (n:Nat):sg (!a) n = - sg a n:=by
 cases a <;> simp [sg]
theorem sg_sub (a:Bool) (n m:Nat) (h:m≤n):sg a n+sg (!a) m=sg a (n - m):=by
 cases a <;> simp [sg] <;> omega
theorem sg_sub' (a:Bool) (n m:Nat) (h:n≤m):sg a n+sg (!a) m=sg (!a) (m - n):=by
 cases a <;> simp [sg] <;> omega
theorem rat_add_same (a:Bool) (n m d e:Nat) (hd:d≠0) (he:e≠0):rat a n d+rat a m e=rat a (n*e+m*d) (d*e):=by
 unfold rat;rw [Rat.mkRat_add_mkRat _ _ hd he,sg_mul_nat,sg_mul_nat,sg_add]
theorem rat_add_more (a:Bool) (n m d e:Nat) (hd:d≠0) (he:e≠0) (h:m*d≤n*e):rat a n d+rat (!a) m e=rat a (n*e - m*d) (d*e):=by
 unfold rat;rw [Rat.mkRat_add_mkRat _ _ hd he,sg_mul_nat,sg_mul_nat,sg_sub a _ _ h]
theorem rat_add_less (a:Bool) (n m d e:Nat) (hd:d≠0) (he:e≠0) (h:n*e≤m*d):rat a n d+rat (!a) m e=rat (!a) (m*d - n*e) (d*e):=by
 unfold rat;rw [Rat.mkRat_add_mkRat _ _ hd he,sg_mul_nat,sg_mul_nat,sg_sub' a _ _ h]
theorem rat_scale (a:Bool) (n d k:Nat) (hk:k≠0):rat a (n*k) (d*k)=rat a n d:=by
 unfold rat;rw [←sg_mul_nat,Rat.mkRat_mul_right hk]
theorem mul_parts (x y:Rat):rat (decide (x.num<0) != decide (y.num<0)) (x.num.natAbs*y.num.natAbs) (x.den*y.den)=x*y:=by
 rw [←rat_mul,rat_self,rat_self]
theorem add_same (x y:Rat) (h:decide (x.num<0)=decide (y.num<0)):rat (decide (x.num<0)) (x.num.natAbs*y.den+y.num.natAbs*x.den) (x.den*y.den)=x+y:=by
 rw [←rat_add_same _ _ _ _ _ x.den_nz y.den_nz,rat_self,h,rat_self]
theorem add_more (x y:Rat) (h:decide (x.num<0)=!decide (y.num<0)) (hl:y.num.natAbs*x.den≤x.num.natAbs*y.den):rat (decide (x.num<0)) (x.num.natAbs*y.den - y.num.natAbs*x.den) (x.den*y.den)=x+y:=by
 rw [←rat_add_more _ _ _ _ _ x.den_nz y.den_nz hl,rat_self];rw [h,Bool.not_not,rat_self]
theorem add_less (x y:Rat) (h:decide (x.num<0)=!decide (y.num<0)) (hl:x.num.natAbs*y.den≤y.num.natAbs*x.den):rat (decide (y.num<0)) (y.num.natAbs*x.den - x.num.natAbs*y.den) (x.den*y.den)=x+y:=by
 have h':decide (y.num<0)=!decide (x.num<0):=by rw [h,Bool.not_not]
 rw [h',←rat_add_less _ _ _ _ _ x.den_nz y.den_nz hl,rat_self,←h',rat_self]
theorem rat_cancel (a b:Bool) (n d e m:Nat) (he:e≠0) (hm:m≠0):rat (a != b) (n*e) (d*m)*rat b m e=rat a n d:=by
 rw [rat_mul,Nat.mul_assoc,Nat.mul_assoc,Nat.mul_comm e m,Nat.mul_comm m e,rat_scale _ _ _ _ (Nat.mul_ne_zero (by omega) (by omega))]
 cases a <;> cases b <;> rfl
theorem div_parts (x y:Rat) (hy:y≠0):rat (decide (x.num<0) != decide (y.num<0)) (x.num.natAbs*y.den) (x.den*y.num.natAbs)=x / y:=by
 have h:=rat_cancel (decide (x.num<0)) (decide (y.num<0)) x.num.natAbs x.den y.den y.num.natAbs y.den_nz (by rw [Ne,Int.natAbs_eq_zero,Rat.num_eq_zero];exact hy);rw [rat_self,rat_self] at h;rw [←h,Rat.mul_div_cancel hy,h]
def cmpQ (x y:Rat):Int:=(x.num*y.den - y.num*x.den).sign
theorem cmpQ_neg (x y:Rat):cmpQ x y = -1↔x<y:=by
 unfold cmpQ;rw [Rat.lt_iff,Int.sign_eq_neg_one_iff_neg];omega
theorem cmpQ_pos (x y:Rat):cmpQ x y=1↔y<x:=by
 unfold cmpQ;rw [Rat.lt_iff,Int.sign_eq_one_iff_pos];omega
theorem cmpQ_zero (x y:Rat):cmpQ x y=0↔x=y:=by
 unfold cmpQ;rw [Rat.eq_iff_mul_eq_mul,Int.sign_eq_zero_iff_zero];omega
theorem rat_tri (x y:Rat):x<y∨x=y∨y<x:=by
 rcases @Rat.le_total x y with h|h
 ·rcases Rat.le_iff_lt_or_eq.1 h with h|h
  ·exact .inl h
  ·exact .inr (.inl h)
 ·rcases Rat.le_iff_lt_or_eq.1 h with h|h
  ·exact .inr (.inr h)
  ·exact .inr (.inl h.symm)
theorem cmpQ_zero_right (x:Rat):cmpQ x 0=x.num.sign:=by
 unfold cmpQ;simp
theorem cmpQ_sign (x y:Rat) (h:x.num.sign≠y.num.sign):cmpQ x y=max (-1) (min 1 (x.num.sign - y.num.sign)):=by
 have hx:(0:Int)<x.den:=by have:=x.den_pos;omega
 have hy:(0:Int)<y.den:=by have:=y.den_pos;omega
 have e1:(x.num*y.den).sign=x.num.sign:=by rw [Int.sign_mul,Int.sign_eq_one_of_pos hy,Int.mul_one]
 have e2:(y.num*x.den).sign=y.num.sign:=by rw [Int.sign_mul,Int.sign_eq_one_of_pos hx,Int.mul_one]
 unfold cmpQ;generalize x.num*y.den=a at *;generalize y.num*x.den=b at *;rw [←e1,←e2] at h ⊢
 rcases Int.lt_trichotomy a 0 with ha|ha|ha <;> rcases Int.lt_trichotomy b 0 with hb|hb|hb
 ·rw [Int.sign_eq_neg_one_of_neg ha,Int.sign_eq_neg_one_of_neg hb] at h;exact absurd rfl h
 ·rw [hb,Int.sign_eq_neg_one_of_neg ha,Int.sign_eq_neg_one_of_neg (by omega)];rfl
 ·rw [Int.sign_eq_neg_one_of_neg ha,Int.sign_eq_one_of_pos hb,Int.sign_eq_neg_one_of_neg (by omega)];rfl
 ·rw [ha,Int.sign_eq_neg_one_of_neg hb,Int.sign_eq_one_of_pos (by omega)];rfl
 ·rw [ha,hb] at h;exact absurd rfl h
 ·rw [ha,Int.sign_eq_one_of_pos hb,Int.sign_eq_neg_one_of_neg (by omega)];rfl
 ·rw [Int.sign_eq_one_of_pos ha,Int.sign_eq_neg_one_of_neg hb,Int.sign_eq_one_of_pos (by omega)];rfl
 ·rw [hb,Int.sign_eq_one_of_pos ha,Int.sign_eq_one_of_pos (by omega)];rfl
 ·rw [Int.sign_eq_one_of_pos ha,Int.sign_eq_one_of_pos hb] at h;exact absurd rfl h
theorem clamp_cmp (m n:Nat) (c:Int) (h1:c<0↔m<n) (h2:0<c↔n<m):max (-1) (min 1 c)=((m:Int) - n).sign:=by
 rcases Nat.lt_trichotomy m n with h|h|h
 ·rw [Int.sign_eq_neg_one_of_neg (by omega)];have:=h1.2 h;omega
 ·subst h;have a:¬ c<0:=fun e=>by have:=h1.1 e;omega
  have b:¬ 0<c:=fun e=>by have:=h2.1 e;omega
  rw [show ((m:Int) - m)=0 by omega];simp;omega
 ·rw [Int.sign_eq_one_of_pos (by omega)];have:=h2.2 h;omega
theorem cmpQ_same (x y:Rat) (c:Int) (h:x.num.sign=y.num.sign) (h1:c<0↔x.num.natAbs*y.den<y.num.natAbs*x.den) (h2:0<c↔y.num.natAbs*x.den<x.num.natAbs*y.den):cmpQ x y=x.num.sign*max (-1) (min 1 c):=by
 rw [clamp_cmp _ _ c h1 h2];unfold cmpQ
 rcases Int.lt_trichotomy x.num 0 with hx|hx|hx
 ·have sx:=Int.sign_eq_neg_one_of_neg hx
  have hy:y.num<0:=Int.sign_eq_neg_one_iff_neg.1 (h ▸ sx)
  rw [sx,show (x.num*y.den - y.num*x.den) = -(((x.num.natAbs*y.den:Nat):Int) - ((y.num.natAbs*x.den:Nat):Int)) by
   push_cast
   rw [show (x.num.natAbs:Int) = -x.num by omega,show (y.num.natAbs:Int) = -y.num by omega,Int.neg_mul,Int.neg_mul];omega,Int.sign_neg]
  omega
 ·have sx:x.num.sign=0:=by rw [hx];rfl
  have hy:y.num=0:=Int.sign_eq_zero_iff_zero.1 (h ▸ sx);rw [hx,hy];simp
 ·have sx:=Int.sign_eq_one_of_pos hx
  have hy:0<y.num:=Int.sign_eq_one_iff_pos.1 (h ▸ sx)
  rw [sx,show (x.num*y.den - y.num*x.den)=(((x.num.natAbs*y.den:Nat):Int) - ((y.num.natAbs*x.den:Nat):Int)) by
   push_cast
   rw [show (x.num.natAbs:Int)=x.num by omega,show (y.num.natAbs:Int)=y.num by omega]]
  omega
end Go.Proofs.YtpgdefgdboijlaaGreatDoor
namespace Go.Proofs.YtpgdefgdboijlaaGreatDoor
open Go.RowKit Go.Lib
def natOf (l:List UInt8):Nat:=l.foldl (fun n c=>10*n+(c.toNat - 48)) 0
def isDig (c:UInt8):Bool:=decide (48≤c.toNat) && decide (c.toNat≤57)
theorem isDig_iff (c:UInt8):isDig c=true↔48≤c.toNat∧c.toNat≤57:=by
 unfold isDig;simp
theorem natOf_nil:natOf []=0:=rfl
theorem natOf_snoc (l:List UInt8) (c:UInt8):natOf (l ++ [c])=10*natOf l+(c.toNat - 48):=by
 simp [natOf,List.foldl_append]
theorem natOf_acc (l:List UInt8) (a:Nat):l.foldl (fun n c=>10*n+(c.toNat - 48)) a=a*10 ^ l.length+natOf l:=by
 induction l generalizing a with
 | nil=>simp [natOf]
 | cons c l ih=>
  unfold natOf
  simp only [List.foldl_cons,List.length_cons]
  rw [ih,ih (10*0+(c.toNat - 48)),Nat.pow_succ,Nat.mul_zero,Nat.zero_add,Nat.add_mul]
  have:10*a*10 ^ l.length=a*(10 ^ l.length*10):=by rw [Nat.mul_comm 10 a,Nat.mul_assoc,Nat.mul_comm 10]
  omega
theorem natOf_append (l m:List UInt8):natOf (l ++ m)=natOf l*10 ^ m.length+natOf m:=by
 unfold natOf;rw [List.foldl_append];exact natOf_acc m _
theorem natOf_cons (c:UInt8) (l:List UInt8):natOf (c :: l)=(c.toNat - 48)*10 ^ l.length+natOf l:=by
 have:=natOf_append [c] l
 rw [List.singleton_append] at this;rw [this];simp [natOf]
theorem natOf_lt (l:List UInt8) (h:∀c ∈ l,isDig c=true):natOf l<10 ^ l.length:=by
 induction l with
 | nil=>simp [natOf]
 | cons c l ih=>
  rw [natOf_cons,List.length_cons,Nat.pow_succ];have h1:=ih fun d hd=>h d (List.mem_cons_of_mem _ hd);have h2:=(isDig_iff c).1 (h c (List.mem_cons_self ..));have h3:(c.toNat - 48)*10 ^ l.length≤9*10 ^ l.length:=Nat.mul_le_mul_right _ (by omega);omega
theorem dchar (d:Nat) (h:d<10):(UInt8.ofNat (48+d)).toNat=48+d:=by
 rw [UInt8.toNat_ofNat'];exact Nat.mod_eq_of_lt (by omega)
theorem chard (c:UInt8) (h:isDig c=true):UInt8.ofNat (48+(c.toNat - 48))=c:=by
 have h2:=(isDig_iff c).1 h
 apply UInt8.toNat_inj.1
 rw [dchar _ (by omega)];omega
theorem natOf_dec (n:Nat):natOf (decDigits n)=n:=by
 induction n using Nat.strongRecOn with
 | _ n ih=>
  by_cases h:n<10
  ·rw [decDigits,dif_pos h];(simp [natOf];omega)
  ·rw [decDigits,dif_neg h,natOf_snoc,ih _ (by omega),dchar _ (by omega)];omega
theorem dec_ne_nil (n:Nat):decDigits n≠[]:=by
 rw [decDigits];split <;> simp
theorem dec_isDig (n:Nat):∀c ∈ decDigits n,isDig c=true:=by
 induction n using Nat.strongRecOn with
 | _ n ih=>
  intro c hc
  by_cases h:n<10
  ·rw [decDigits,dif_pos h] at hc
   simp only [List.mem_singleton] at hc
   rw [hc,isDig_iff,dchar _ h];omega
  ·rw [decDigits,dif_neg h] at hc
   rcases List.mem_append.1 hc with hc|hc
   ·exact ih _ (by omega) c hc
   ·simp only [List.mem_singleton] at hc
    rw [hc,isDig_iff,dchar _ (by omega)];omega
theorem natOf_pos (l:List UInt8) (h:∀c ∈ l,isDig c=true) (h0:l≠[]) (h1:l.head?≠some 48):0<natOf l:=by
 cases l with
 | nil=>exact absurd rfl h0
 | cons c l=>
  rw [natOf_cons];have h2:=(isDig_iff c).1 (h c (List.mem_cons_self ..))
  have h3:c.toNat≠48:=fun e=>h1 (by
   rw [List.head?_cons];congr 1;apply UInt8.toNat_inj.1;rw [e];rfl)
  have h4:0<10 ^ l.length:=Nat.pow_pos (by decide);have h5:1*10 ^ l.length≤(c.toNat - 48)*10 ^ l.length:=Nat.mul_le_mul_right _ (by omega);omega
theorem dec_natOf (l:List UInt8) (h:∀c ∈ l,isDig c=true) (h0:l≠[]) (h1:l.head?≠some 48∨l.length=1):decDigits (natOf l)=l:=by
 obtain⟨k,hk⟩:∃k,l.length=k:=⟨_,rfl⟩
 induction k using Nat.strongRecOn generalizing l with
 | _ k ih=>
  have hs:=List.dropLast_concat_getLast h0;obtain⟨m,hm⟩:∃m,l.dropLast=m:=⟨_,rfl⟩;obtain⟨c,hc⟩:∃c,l.getLast h0=c:=⟨_,rfl⟩;rw [hm,hc] at hs;subst hs;have hcd:=h c (by simp);have h2:=(isDig_iff c).1 hcd;rw [natOf_snoc]
  by_cases hmn:m=[]
  ·subst hmn
   rw [natOf_nil,decDigits,dif_pos (by omega)]
   simp only [Nat.mul_zero,Nat.zero_add,List.nil_append]
   rw [chard c hcd]
  ·have h3:(m ++ [c]).head?=m.head?:=by
    cases m with
    | nil=>exact absurd rfl hmn
    | cons a m=>rfl
   have hml:0<m.length:=List.length_pos_iff.2 hmn
   have h4:m.head?≠some 48:=by
    rcases h1 with h1|h1
    ·rw [←h3];exact h1
    ·simp at h1;exact absurd h1 hmn
   have hd:∀x ∈ m,isDig x=true:=fun x hx=>h x (by simp [hx]);have h5:=natOf_pos m hd hmn h4;rw [decDigits,dif_neg (by omega)];have e1:(10*natOf m+(c.toNat - 48)) / 10=natOf m:=by omega
   have e2:(10*natOf m+(c.toNat - 48)) % 10=c.toNat - 48:=by omega
   rw [e1,e2,chard c hcd];have hk':m.length<k:=by simp at hk;omega
   rw [ih m.length hk' m hd hmn (Or.inl h4) rfl]
theorem dec_head (n:Nat) (h:n≠0):(decDigits n).head?≠some 48:=by
 induction n using Nat.strongRecOn with
 | _ n ih=>
  by_cases hl:n<10
  ·rw [decDigits,dif_pos hl,List.head?_cons]
   intro e
   have:=congrArg UInt8.toNat (Option.some.inj e)
   rw [dchar _ hl] at this;have h9:(48:UInt8).toNat=48:=rfl;omega
  ·rw [decDigits,dif_neg hl]
   have h3:=dec_ne_nil (n / 10)
   cases hq:decDigits (n / 10) with
   | nil=>exact absurd hq h3
   | cons a m=>
    have:=ih (n / 10) (by omega) (by omega)
    rw [hq] at this;exact this
theorem dec_zero:decDigits 0=[48]:=by rw [decDigits,dif_pos (by decide)];rfl
def padTo (k r:Nat):List UInt8:=List.replicate (k - (decDigits r).length) 48 ++ decDigits r
theorem dec_length_le (k r:Nat) (hk:0<k) (hr:r<10 ^ k):(decDigits r).length≤k:=by
 rcases Nat.lt_or_ge k (decDigits r).length with h|h
 ·exfalso
  have hr0:r≠0:=by
   intro e;subst e;rw [dec_zero] at h;simp at h;omega
  have hd:=dec_isDig r;have hh:=dec_head r hr0;have hn:=natOf_dec r
  cases hq:decDigits r with
  | nil=>exact dec_ne_nil r hq
  | cons c m=>
   rw [hq] at h hd hh hn;rw [natOf_cons] at hn;have h2:=(isDig_iff c).1 (hd c (List.mem_cons_self ..))
   have h3:c.toNat≠48:=fun e=>hh (by
    rw [List.head?_cons];congr 1;apply UInt8.toNat_inj.1;rw [e];rfl)
   have h5:1*10 ^ m.length≤(c.toNat - 48)*10 ^ m.length:=Nat.mul_le_mul_right _ (by omega);have h6:10 ^ k≤10 ^ m.length:=Nat.pow_le_pow_right (by decide) (by simp at h;omega);omega
 ·exact h
theorem padTo_length (k r:Nat) (hk:0<k) (hr:r<10 ^ k):(padTo k r).length=k:=by
 have:=dec_length_le k r hk hr
 simp [padTo];omega
theorem natOf_zeros (k:Nat) (l:List UInt8):natOf (List.replicate k 48 ++ l)=natOf l:=by
 induction k with
 | zero=>simp
 | succ k ih=>rw [List.replicate_succ,List.cons_append,natOf_cons,ih];simp
theorem padTo_isDig (k r:Nat):∀c ∈ padTo k r,isDig c=true:=by
 intro c hc
 rcases List.mem_append.1 hc with h|h
 ·rw [List.mem_replicate] at h
  rw [h.2];rfl
 ·exact dec_isDig r c h
theorem dec_split (k q r:Nat) (hk:0<k) (hq:0<q) (hr:r<10 ^ k):decDigits (q*10 ^ k+r)=decDigits q ++ padTo k r:=by
 have h1:natOf (decDigits q ++ padTo k r)=q*10 ^ k+r:=by
  rw [natOf_append,natOf_dec,padTo_length k r hk hr];unfold padTo;rw [natOf_zeros,natOf_dec]
 rw [←h1];have hn:=dec_ne_nil q;refine dec_natOf _ ?_ (by simp [hn]) (Or.inl ?_)
 ·intro c hc
  rcases List.mem_append.1 hc with h|h
  ·exact dec_isDig q c h
  ·exact padTo_isDig k r c h
 ·cases hd:decDigits q with
  | nil=>exact absurd hd hn
  | cons a m=>
   have:=dec_head q (by omega)
   rw [hd] at this;exact this
def txt (q:Rat):List UInt8:=(if q.num<0 then [45] else []) ++ decDigits q.num.natAbs ++ (if q.den=1 then [] else 47 :: decDigits q.den)
end Go.Proofs.YtpgdefgdboijlaaGreatDoor
namespace Go.Proofs.YtpgdefgdboijlaaGreatDoor
open Go.RowKit
theorem sm_of_lt {n B:Nat} (h:n<2 ^ B) (hB:B≤35184372088832):Sm n:=by
 unfold Sm dg
 have h1:n<B64 ^ (B / 64+1):=by
  have:B64=2 ^ 64:=rfl
  rw [this,←Nat.pow_mul];exact Nat.lt_of_lt_of_le h (Nat.pow_le_pow_right (by decide) (by omega))
 have h2:=dig_length_le B64_two h1;omega
theorem lt_mul {m n A B:Nat} (h:m<2 ^ A) (k:n<2 ^ B):m*n<2 ^ (A+B):=by
 rw [Nat.pow_add]
 rcases Nat.eq_zero_or_pos n with h0|h0
 ·subst h0
  rw [Nat.mul_zero];exact Nat.mul_pos (Nat.pow_pos (by decide)) (Nat.pow_pos (by decide))
 ·calc m*n<2 ^ A*n:=Nat.mul_lt_mul_of_pos_right h h0
   _≤2 ^ A*2 ^ B:=Nat.mul_le_mul_left _ (Nat.le_of_lt k)
theorem lt_add {m n A:Nat} (h:m<2 ^ A) (k:n<2 ^ A):m+n<2 ^ (A+1):=by
 rw [Nat.pow_succ];omega
theorem lt_mono {m A B:Nat} (h:m<2 ^ A) (k:A≤B):m<2 ^ B:=
 Nat.lt_of_lt_of_le h (Nat.pow_le_pow_right (by decide) k)
def Bq (B:Nat) (q:Rat):Prop:=q.num.natAbs<2 ^ B∧q.den<2 ^ B
theorem Bq.mono {A B:Nat} {q:Rat} (h:Bq A q) (k:A≤B):Bq B q:=⟨lt_mono h.1 k,lt_mono h.2 k⟩
theorem bq_rat {b:Bool} {n d B:Nat} (hn:n<2 ^ B) (hd:d<2 ^ B) (h0:d≠0):Bq B (rat b n d):=
 ⟨by rw [rat_natAbs _ _ _ h0];exact Nat.lt_of_le_of_lt (Nat.div_le_self _ _) hn,by rw [rat_den _ _ _ h0];exact Nat.lt_of_le_of_lt (Nat.div_le_self _ _) hd⟩
theorem bq_zero (B:Nat) (h:0<B):Bq B 0:=⟨by simp;exact Nat.pow_pos (by decide),by
 show 1<2 ^ B
 exact Nat.one_lt_two_pow (by omega)⟩
theorem Bq.neg {B:Nat} {q:Rat} (h:Bq B q):Bq B (-q):=⟨by rw [Rat.neg_num,Int.natAbs_neg];exact h.1,by rw [Rat.neg_den];exact h.2⟩
theorem Bq.mul {A B:Nat} {x y:Rat} (h:Bq A x) (k:Bq B y):Bq (A+B) (x*y):=by
 rw [←mul_parts x y];exact bq_rat (lt_mul h.1 k.1) (lt_mul h.2 k.2) (Nat.mul_ne_zero x.den_nz y.den_nz)
theorem Bq.add {A B:Nat} {x y:Rat} (h:Bq A x) (k:Bq B y):Bq (A+B+1) (x+y):=by
 have h1:=lt_mul h.1 k.2;have h2:=lt_mul k.1 h.2;rw [Nat.add_comm B A] at h2;have h3:=lt_mul h.2 k.2;have h4:x.den*y.den<2 ^ (A+B+1):=lt_mono h3 (by omega);have h0:=Nat.mul_ne_zero x.den_nz y.den_nz
 by_cases hs:decide (x.num<0)=decide (y.num<0)
 ·rw [←add_same x y hs]
  exact bq_rat (lt_add h1 h2) h4 h0
 ·have hs':decide (x.num<0)=!decide (y.num<0):=by
   revert hs;cases decide (x.num<0) <;> cases decide (y.num<0) <;> simp
  rcases Nat.le_total (y.num.natAbs*x.den) (x.num.natAbs*y.den) with hl|hl
  ·rw [←add_more x y hs' hl]
   exact bq_rat (Nat.lt_of_le_of_lt (Nat.sub_le _ _) (lt_mono h1 (by omega))) h4 h0
  ·rw [←add_less x y hs' hl]
   exact bq_rat (Nat.lt_of_le_of_lt (Nat.sub_le _ _) (lt_mono h2 (by omega))) h4 h0
theorem Bq.sub {A B:Nat} {x y:Rat} (h:Bq A x) (k:Bq B y):Bq (A+B+1) (x - y):=by
 rw [Rat.sub_eq_add_neg];exact h.add k.neg
theorem Bq.div {A B:Nat} {x y:Rat} (h:Bq A x) (k:Bq B y) (hy:y≠0):Bq (A+B) (x / y):=by
 rw [←div_parts x y hy];have hn:y.num.natAbs≠0:=by rw [Ne,Int.natAbs_eq_zero,Rat.num_eq_zero];exact hy
 exact bq_rat (lt_mul h.1 k.2) (lt_mul h.2 k.1) (Nat.mul_ne_zero x.den_nz hn)
theorem Bq.sm {M:Nat} {x:Rat} (h:Bq M x) (hM:M≤1099511627776):Sm x.num.natAbs∧Sm x.den:=
 ⟨sm_of_lt h.1 (by omega),sm_of_lt h.2 (by omega)⟩
theorem Bq.sm2 {M:Nat} {x y:Rat} (h:Bq M x) (k:Bq M y) (hM:M≤1099511627776):Sm (x.num.natAbs*y.num.natAbs)∧Sm (x.den*y.den)∧Sm (x.num.natAbs*y.den)∧Sm (y.num.natAbs*x.den)∧Sm (x.den*y.num.natAbs)∧Sm (x.num.natAbs*y.den+y.num.natAbs*x.den):=
 ⟨sm_of_lt (lt_mul h.1 k.1) (by omega),sm_of_lt (lt_mul h.2 k.2) (by omega),sm_of_lt (lt_mul h.1 k.2) (by omega),sm_of_lt (lt_mul k.1 h.2) (by omega),sm_of_lt (lt_mul h.2 k.1) (by omega),sm_of_lt (lt_add (lt_mul h.1 k.2) (lt_mul k.1 h.2)) (by omega)⟩
end Go.Proofs.YtpgdefgdboijlaaGreatDoor
