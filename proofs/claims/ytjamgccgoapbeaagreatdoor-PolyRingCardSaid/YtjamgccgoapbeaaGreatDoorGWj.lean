/- The program's natural numbers: the greatest common divisor. Numbers: sign, numerator, denominator. The reference's natural numbers: a shift to the right. -/
import Derived.Test.YtjamgccgoapbeaaGreatDoorGWi
import Derived.Deep.LoopGhost
import Derived.Test.YtjamgccgoapbeaaGreatDoorGRd
import Derived.BigRegion
set_option linter.unusedVariables false
set_option maxRecDepth 100000
set_option maxHeartbeats 64000000
namespace Go.Proofs.YtjamgccgoapbeaaGreatDoor
open Go.RowKit
theorem dg_one_word {n:Nat} (h1:(dg n).length=1):(dg n).getD 0 0=n∧n<B64:=by
 have e1:(dg n).getD 0 0=n:=by
  have e:=num_dg n
  match h:dg n,h1 with
  | [d],_=>rw [h] at e;simpa using e
 exact⟨e1,by rw [←e1];exact getD_lt (dg_lt n) (by rw [B64_eq];omega) 0⟩
theorem sm_lt {m n:Nat} (h:m≤n) (k:Sm n):Sm m:=Nat.le_trans (dig_length_mono B64_two h) k
theorem divisor_c (va vb:Value) (m n:Nat) (w:World) (ha:Wd w va m) (hb:Wd w vb n) (sa:Sm m) (sb:Sm n) (hm:0<m):Calls Tryz.prog 107 #[va,vb] w fun e w'=>∃v,e=.returned v∧Wd w' v (Nat.gcd m n)∧Ext w w':=by
 obtain⟨G,hG⟩:∃G,G=Nat.gcd m n:=⟨_,rfl⟩;rw [←hG];have HG:=ZZ hG;have Ha:=ZZ ha;have Hb:=ZZ hb;have Sa:=ZZ sa;have Sb:=ZZ sb;have Hm:=ZZ hm;clear hG ha hb sa sb hm
 go_enter Tryz.func107,Tryz.ntmps107
 go_wp2_with fail
 go_loopg [0,1,5,6] n (fun k a b _ _ wr=>∃m',Wd wr a m'∧Wd wr b k∧0<m'∧Sm m'∧Sm k∧Nat.gcd m' k=G∧Ext w wr)
 case atStart=>exact⟨m,Ha.out,Hb.out,Hm.out,Sa.out,Sb.out,HG.out.symm,ae _⟩
 case round=>
  obtain⟨m',ha,hb,hm,sa,sb,hg,hext⟩:=hrel;have Ha':=ZZ ha;have Hb':=ZZ hb;have Sa':=ZZ sa;have Sb':=ZZ sb;have Hm':=ZZ hm;have Hg':=ZZ hg;have Hext:=ZZ hext;obtain⟨A,ca,rfl,hca,hA⟩:=ha;obtain⟨B,cb,rfl,hcb,hB⟩:=hb;obtain⟨p,hp⟩:∃p,(dg m').length=p:=⟨_,rfl⟩;obtain⟨q,hq⟩:∃q,(dg gk).length=q:=⟨_,rfl⟩;have h1w:=fun h=>dg_one_word (n:=gk) h;have hcl:=fun h:0<(dg gk).length=>hB.u h;have hz:(dg gk).length=0→gk=0:=fun h=>(dig_eq_nil B64_two).1 (List.length_eq_zero_iff.1 h);rw [hq] at hcb hcl h1w hz ⊢;rw [hp] at hca ⊢;have Hp:=ZZ hp;have Hq:=ZZ hq;have H1w:=ZZ h1w;have Hcl:=ZZ hcl;have Hz:=ZZ hz;clear hm sa sb hg hext hA hB hp hq h1w hcl hz
  rcases Nat.lt_or_ge 1 q with h1|h1
  ·have t1:decide ((1:Int)<(q:Int))=true:=by simp;omega
   have hpos:0<gk:=by
    rcases Nat.eq_zero_or_pos gk with h|h
    ·subst h
     have:=Hq.out
     rw [dg_zero] at this
     simp at this;omega
    ·exact h
   have hd:=div_c _ _ m' gk wr Ha'.out Hb'.out Sa'.out Sb'.out hpos;rw [Hp.out,Hq.out] at hd;have Hd:=ZZ hd;have Hpos:=ZZ hpos;clear hd hpos;go_wp2_with fail;refine Hd.out.mono ?_;rintro e w1 ⟨vq,vr,rfl,h2,h3,h4⟩;have H3:=ZZ h3;have H4:=ZZ h4;clear h2 h3 h4;go_wp2_with fail
   go_roundg (m' % gk)
   case measure=>exact Nat.mod_lt _ Hpos.out
   case rel=>
    refine⟨gk,?_,H3.out,Hpos.out,Sb'.out,sm_lt (Nat.le_of_lt (Nat.mod_lt _ Hpos.out)) Sb'.out,?_,al Hext.out H4.out⟩
    ·have:=Hb'.out.mono H4.out
     rw [Hq.out] at this;exact this
    ·rw [Nat.gcd_comm,←Nat.gcd_rec,Nat.gcd_comm];exact Hg'.out
  ·have t1:decide ((1:Int)<(q:Int))=false:=by simp;omega
   rcases Nat.eq_zero_or_pos q with h0|h0
   ·subst h0
    go_wp2_with fail;go_ret
    have h2:=Hg'.out;rw [Hz.out (by first|rfl|trivial),Nat.gcd_zero_right] at h2;refine⟨_,rfl,?_,Hext.out⟩
    have:=Ha'.out
    rw [Hp.out,h2] at this;exact this
   ·have hq1:q=1:=by omega
    subst hq1;obtain⟨bb,ob,rfl,hc⟩:=Hcl.out (by omega);obtain⟨e1,hlt⟩:=H1w.out rfl
    have hcell:wr.cell? ⟨bb,ob,none⟩=some (.int .u64 (gk:Int)):=by
     have:=hc 0 (by omega)
     rw [e1] at this;simpa using this
    have hpos:0<gk:=by
     rcases Nat.eq_zero_or_pos gk with h|h
     ·subst h
      have:=Hq.out
      rw [dg_zero] at this
      simp at this
     ·exact h
    have hd:=by1_c _ m' gk wr Ha'.out Sa'.out hpos hlt;rw [Hp.out] at hd;have Hd:=ZZ hd;have Hpos:=ZZ hpos;have Hlt:=ZZ hlt;clear hd hpos hlt e1 hc;go_wp2_with fail;refine Hd.out.mono ?_;rintro e w1 ⟨⟨vq,r,rfl,hr,-⟩,hx⟩;have hcell1:=ap hx hcell;have Hr:=ZZ hr;have Hx:=ZZ hx;clear hr hx;go_wp2_with fail
    go_loop [8,9] (fun x y=>∃a b:Nat,x=.int .u64 a∧y=.int .u64 b∧Nat.gcd b a=G∧a<b∧b<B64) (fun x _=>(intOf x).toNat)
    case atStart=>exact⟨r,gk,rfl,rfl,by rw [Hr.out,Nat.gcd_comm,←Nat.gcd_rec,Nat.gcd_comm];exact Hg'.out,by rw [Hr.out];exact Nat.mod_lt _ Hpos.out,Hlt.out⟩
    case round=>
     obtain⟨a,b,rfl,rfl,hg,hab,hbB⟩:=hrel;have Hgab:=ZZ hg;have Hab:=ZZ hab;have HbB:=ZZ hbB;clear hg
     rcases Nat.eq_zero_or_pos a with h|h
     ·subst h
      clear hab hbB;go_wp2_with fail;refine(word_c b HbB.out _).mono ?_;rintro e w2 ⟨v,rfl,h5,h6⟩;have H5:=ZZ h5;have H6:=ZZ h6;clear h5 h6;go_wp2_with fail;go_ret;have h2:=Hgab.out;rw [Nat.gcd_zero_right] at h2;refine⟨_,rfl,?_,al Hext.out (al Hx.out H6.out)⟩;rw [←h2];exact H5.out
     ·have t2:((a:Int) != 0)=true:=by simp;omega
      have t3:((a:Int) == 0)=false:=by simp;omega
      obtain⟨c,hc⟩:∃c,c=b % a:=⟨_,rfl⟩;have hca':c<a:=by rw [hc];exact Nat.mod_lt _ h
      have hw:(b:Int) % (a:Int)=(c:Int):=by rw [hc];simp
      have Hc:Hid (Nat.gcd a c=G):=by
       show _=_
       rw [hc,Nat.gcd_comm,←Nat.gcd_rec,Nat.gcd_comm];exact Hgab.out
      have Hca:=ZZ hca';clear hab hbB hc hca';go_wp2_with fail
      go_round
      case rel=>exact⟨c,a,by rw [hw],rfl,Hc.out,Hca.out,Nat.lt_trans Hab.out HbB.out⟩
      case measure=>
       show (intOf (Value.int _ ((b:Int) % (a:Int)))).toNat<_
       rw [hw];simp [intOf];exact Hca.out
end Go.Proofs.YtjamgccgoapbeaaGreatDoor
set_option linter.unusedVariables false
set_option maxRecDepth 100000
set_option maxHeartbeats 64000000
namespace Go.Proofs.YtjamgccgoapbeaaGreatDoor
open Go.RowKit
def sg (b:Bool) (n:Nat):Int:=if b then -(n:Int) else n
def rat (b:Bool) (n d:Nat):Rat:=mkRat (sg b n) d
theorem sg_natAbs (b n):(sg b n).natAbs=n:=by unfold sg;split <;> simp
theorem rat_natAbs (b:Bool) (n d:Nat) (hd:d≠0):(rat b n d).num.natAbs=n / Nat.gcd n d:=by
 unfold rat;rw [Rat.num_mkRat,if_neg hd,sg_natAbs,Nat.gcd_comm];unfold sg
 split
 ·rw [Int.natAbs_ediv_of_dvd (by rw [Int.dvd_neg];exact Int.natCast_dvd_natCast.2 (Nat.gcd_dvd_left n d))]
  simp
 ·rw [Int.natAbs_ediv_of_dvd (Int.natCast_dvd_natCast.2 (Nat.gcd_dvd_left n d))];simp
theorem rat_den (b:Bool) (n d:Nat) (hd:d≠0):(rat b n d).den=d / Nat.gcd n d:=by
 unfold rat;rw [Rat.den_mkRat,if_neg hd,sg_natAbs,Nat.gcd_comm]
theorem rat_neg (b:Bool) (n d:Nat) (hd:d≠0) (hn:0<n):decide ((rat b n d).num<0)=b:=by
 have h1:(rat b n d).num<0↔b=true:=by
  have h:=Rat.num_mkRat (sg b n) d;unfold rat;rw [h,if_neg hd];have hg:0<Nat.gcd d (sg b n).natAbs:=Nat.gcd_pos_of_pos_left _ (by omega)
  cases b
  ·simp only [Bool.false_eq_true,iff_false,Int.not_lt]
   exact Int.ediv_nonneg (by unfold sg;simp) (by omega)
  ·simp only [iff_true]
   have hlt:sg true n<0:=by unfold sg;simp;omega
   exact Int.ediv_neg_of_neg_of_pos hlt (by exact_mod_cast hg)
 cases b
 ·simpa using h1
 ·simpa using h1
theorem rat_zero (b:Bool) (d:Nat):rat b 0 d=0:=by
 unfold rat sg
 cases b <;> simp
theorem rat_self (q:Rat):rat (decide (q.num<0)) q.num.natAbs q.den=q:=by
 unfold rat
 have:sg (decide (q.num<0)) q.num.natAbs=q.num:=by
  unfold sg
  split
  ·rename_i h
   simp only [decide_eq_true_eq] at h
   omega
  ·rename_i h
   simp only [decide_eq_true_eq] at h
   omega
 rw [this];exact Rat.mkRat_self q
def dn (q:Rat):Nat:=if q.den=1 then 0 else q.den
def Nm (w:World) (v:Value) (q:Rat):Prop:=∃vn vd,v=.agg #[.bool (decide (q.num<0)),vn,vd]∧Wd w vn q.num.natAbs∧Wd w vd (dn q)
theorem Nm.mono {w w':World} {v:Value} {q:Rat} (h:Nm w v q) (k:Ext w w'):Nm w' v q:=by
 obtain⟨vn,vd,e,h1,h2⟩:=h;exact⟨vn,vd,e,h1.mono k,h2.mono k⟩
theorem Nm.zero (w:World):Nm w (.agg #[.bool false,.slice none 0 0,.slice none 0 0]) 0:=⟨_,_,rfl,Wd.zero w,Wd.zero w⟩
end Go.Proofs.YtjamgccgoapbeaaGreatDoor
set_option linter.unusedVariables false
set_option maxRecDepth 100000
set_option maxHeartbeats 64000000
namespace Go.Proofs.YtjamgccgoapbeaaGreatDoor
open Go.RowKit
theorem pow_split (e:Nat) (h:e<30):∃F G:Nat,F=2 ^ e∧0<F∧0<G∧F*G=B30∧F≤536870912∧G=1073741824 / F:=by
 refine⟨2 ^ e,2 ^ (30 - e),rfl,Nat.pow_pos (by omega),Nat.pow_pos (by omega),?_,?_,?_⟩
 ·rw [←Nat.pow_add,show e+(30 - e)=30 by omega];rfl
 ·have:2 ^ e≤2 ^ 29:=Nat.pow_le_pow_right (by omega) (by omega)
  omega
 ·have h2:2 ^ e*2 ^ (30 - e)=1073741824:=by rw [←Nat.pow_add,show e+(30 - e)=30 by omega]
  rw [←h2,Nat.mul_div_cancel_left _ (Nat.pow_pos (by omega))]
theorem right_digit {F G B x y:Nat} (hF:0<F) (hG:0<G) (hB:F*G=B) (hx:x<B):x / F+y % F*G<B:=by
 have h1:x / F<G:=Nat.div_lt_of_lt_mul (by rw [hB];exact hx);have h2:y % F<F:=Nat.mod_lt _ hF;have h3:(y % F+1)*G≤F*G:=Nat.mul_le_mul_right _ h2;rw [Nat.add_mul,Nat.one_mul] at h3;omega
theorem right_step {F G B P R V x0 x y:Nat} (hB:F*G=B) (h:F*R+x0=V+P*(x % F)):F*(R+P*(x / F+y % F*G))+x0=V+P*x+P*B*(y % F):=by
 have h1:=Nat.div_add_mod x F;have h2:F*(P*(x / F+y % F*G))=P*(F*(x / F))+P*B*(y % F):=by rw [←hB];grind
 have h3:P*x=P*(F*(x / F))+P*(x % F):=by rw [←Nat.mul_add,h1]
 rw [Nat.mul_add,h2,h3];omega
theorem right_end {F R V x0:Nat} (hF:0<F) (h:F*R+x0=V) (hx:x0<F):R=V / F:=by
 rw [←h,Nat.mul_add_div hF,Nat.div_eq_of_lt hx,Nat.add_zero]
theorem right_r (va:Value) (n k:Nat) (hk:k≤35184372088832) (w:World) (ha:Wr w va n) (sa:Sr n):Calls Tryz.prog 169 #[va,.int .i64 k] w fun e w'=>∃v,e=.returned v∧Wr w' v (n / 2 ^ k)∧Ext w w':=by
 obtain⟨A,ca,rfl,hca,hA⟩:=ha;unfold Sr at sa;have en:=num_dr n;have nl:=dr_lt n;have hnn:=dr_norm n;generalize dr n=l at *;obtain⟨s,e,hse,he⟩:∃s e:Nat,k=30*s+e∧e<30:=⟨k / 30,k % 30,by omega,by omega⟩;have hq:(k:Int) / 30=(s:Int):=by omega
 have hr:(k:Int) % 30=(e:Int):=by omega
 have hwq:IntKind.i64.wrap (s:Int)=(s:Int):=IntWalk.i64_in _ (by omega);have hsb:s≤35184372088832:=by omega
 have HSE:=ZZ hse;have En:=ZZ en;have Nl:=ZZ nl;clear en nl hse
 by_cases hsl:l.length≤s
 ·have hc1:decide ((l.length:Int)≤(s:Int))=true:=by simp;omega
  have HZ:=ZZ (show n / 2 ^ k=0 by
   apply Nat.div_eq_of_lt
   have h1:=num_lt B30 l Nl.out;rw [En.out] at h1;have h2:B30 ^ l.length≤2 ^ k:=by rw [B30_pow,HSE.out];exact Nat.pow_le_pow_right (by omega) (by omega)
   omega)
  go_enter Tryz.func169,Tryz.ntmps169
  go_wp2_with fail;go_ret
  exact⟨_,rfl,by rw [HZ.out];exact Wr.zero _,ae _⟩
 ·have hc1:decide ((l.length:Int)≤(s:Int))=false:=by simp;omega
  obtain⟨b,o,rfl,hc⟩:=hA.i (by omega);obtain⟨F,G,hF,hF0,hG0,hFG,hFb,hG⟩:=pow_split e he;obtain⟨m,hm⟩:∃m,l.length=s+m:=⟨l.length - s,by omega⟩;obtain⟨y,hy⟩:∃y,y=l.drop s:=⟨_,rfl⟩;have hyl:y.length=m:=by rw [hy,List.length_drop,hm];omega
  have hyb:∀d ∈ y,d<B30:=fun d hd=>Nl.out d (by rw [hy] at hd;exact List.mem_of_mem_drop hd)
  have hcy:∀j,j<m→w.cell? ⟨b,o+s+j,none⟩=some (.int .i64 ((y.getD j 0:Nat):Int)):=fun j hj=>by
   have h1:=hc (s+j) (by omega);rw [show o+(s+j)=o+s+j by omega] at h1;rw [h1,hy]
   simp [List.getD_eq_getElem?_getD]
  have HNY:=ZZ (show n / 2 ^ k=num B30 y / F by
   have h1:=num_drop B30 l s (by omega);rw [En.out,←hy] at h1;have h2:=num_lt B30 (l.take s) (fun d hd=>Nl.out d (List.mem_of_mem_take hd));rw [List.length_take,Nat.min_eq_left (by omega)] at h2;rw [HSE.out,Nat.pow_add,←B30_pow,←Nat.div_div_eq_div_mul,←hF]
   congr 1
   rw [h1,Nat.add_comm,Nat.mul_add_div (Nat.pow_pos (by rw [B30_eq];omega)),Nat.div_eq_of_lt h2,Nat.add_zero])
  have HY:=ZZ hyl;have HYB:=ZZ hyb;have HC:=ZZ hcy;have HF:=ZZ hF;have HFG:=ZZ hFG;have hmk:=mk_digits m (m:Int) rfl (by omega);have hF':((2:Int) ^ e)=(F:Int):=by rw [hF];push_cast;rfl
  have hsh:IntKind.i64.wrap ((2:Int) ^ e)=(F:Int):=by rw [hF'];exact IntWalk.i64_in _ (by omega)
  have hmp:0<m:=by omega
  have hsc0:s+m≤ca:=by omega
  have hc2:decide ((s:Int)+(m:Int)≤(s:Int))=false:=by simp;omega
  have hc3:decide (s+m≤s)=false:=by simp;omega
  rw [hm];clear hc1 hsl;have hu:IntKind.u64.wrap (e:Int)=(e:Int):=IntWalk.u64_in _ (by omega);have hs0:(0:Int)≤(s:Int):=by omega
  have hsl':(s:Int)≤((s+m:Nat):Int):=by omega
  have hsc:((s+m:Nat):Int)≤(ca:Int):=by omega
  have hsum:s+m - s=m:=by omega
  clear hcy hyb hyl hy hc hA hF hFG hnn hF'
  go_enter Tryz.func169,Tryz.ntmps169
  go_wp2_with fail;clear hmk hc2 hc3
  go_loopw [7] (fun i wr=>∃(t:Nat) (r:List Nat),t≤m∧i=.int .i64 t∧r.length=m∧(∀d ∈ r,d<B30)∧BkI wr w.heap.size r∧Below w.heap.size w wr∧F*num B30 (r.take t)+y.getD 0 0 % F=num B30 (y.take t)+B30 ^ t*(y.getD t 0 % F)) (fun i _=>m - (intOf i).toNat)
  case atStart=>exact⟨0,zs m,Nat.zero_le _,rfl,zs_length _,zs_lt (by rw [B30_eq];omega) _,BkI.new _ _,ab _ _,by simp⟩
  case round=>
   obtain⟨t,r,ht,rfl,hr,hrl,hbk,hbel,hnum⟩:=hrel;have Hr:Hid (r.length=m):=hr;have Hrl:=ZZ hrl;have Hbk:Hid (BkI wr w.heap.size r):=hbk;have Hnum:=ZZ hnum;clear hr hrl hnum hbk
   by_cases hlt:t<m
   ·have ea:=ap hbel (HC.out t hlt)
    have hci:=Hbk.out.cell t (by rw [Hr.out];omega);have hfi:=Hbk.out.frozen t;have hxb:=getD_lt HYB.out (by rw [B30_eq];omega) t;have HX:=ZZ hxb;have HTT:=ZZ (num_take_le B30 y t);rw [B30_eq] at hxb;obtain⟨x,hx⟩:∃x,x=y.getD t 0:=⟨_,rfl⟩;rw [←hx] at ea hxb;have HXX:=ZZ hx;obtain⟨q,hq⟩:∃q,q=x / F:=⟨_,rfl⟩;have hqi:(x:Int) / (F:Int)=(q:Int):=by rw [hq];exact(Int.natCast_ediv x F).symm
    have hqb:q≤1073741824:=by rw [hq];have:=Nat.div_le_self x F;omega
    have hwq1:IntKind.i64.wrap (q:Int)=(q:Int):=IntWalk.i64_in _ (by omega);have HQ:=ZZ hq;have hF0':((F:Int) == 0)=false:=by rw [beq_eq_false_iff_ne];omega
    clear hx hq
    by_cases hl1:t+1<m
    ·obtain⟨z,hz⟩:∃z,z=y.getD (t+1) 0:=⟨_,rfl⟩
     have hzb:=getD_lt HYB.out (by rw [B30_eq];omega) (t+1);rw [←hz,B30_eq] at hzb;have HZ:=ZZ hz;obtain⟨z1,hz1⟩:∃z1,z1=z % F:=⟨_,rfl⟩;have hzi:(z:Int) % (F:Int)=(z1:Int):=by rw [hz1];exact(Int.natCast_emod z F).symm
     have hz1F:z1<F:=by rw [hz1];exact Nat.mod_lt _ hF0
     have hGi:(1073741824:Int) / (F:Int)=(G:Int):=by rw [hG];exact(Int.natCast_ediv 1073741824 F).symm
     have HVB:=right_digit (x:=x) (y:=z) hF0 hG0 HFG.out (by rw [B30_eq];exact hxb);rw [←HQ.out,←hz1,B30_eq] at HVB;have hGb:G≤1073741824:=by rw [hG];exact Nat.div_le_self _ _
     obtain⟨p,hp⟩:∃p,p=z1*G:=⟨_,rfl⟩;rw [←hp] at HVB;obtain⟨v,hv⟩:∃v,v=q+p:=⟨_,rfl⟩
     have hw5:IntKind.i64.wrap ((z1:Int)*(G:Int))=(p:Int):=by
      rw [show (z1:Int)*(G:Int)=(p:Int) by rw [hp];push_cast;rfl];exact IntWalk.i64_in _ (by omega)
     have hw6:IntKind.i64.wrap ((q:Int)+(p:Int))=(v:Int):=(IntWalk.i64_in _ (by omega)).trans (by omega);have hw7:IntKind.i64.wrap (G:Int)=(G:Int):=IntWalk.i64_in _ (by omega);have hw8:IntKind.i64.wrap ((t:Int)+1)=((t+1:Nat):Int):=(IntWalk.i64_in _ (by omega)).trans (by omega);have hvb:v<1073741824:=by omega
     have HV:=ZZ (show v=x / F+z % F*G by rw [hv,hp,hz1,HQ.out]);have HVb:=ZZ (show v<B30 by rw [B30_eq];exact hvb);have hc5:decide (((t+1:Nat):Int)<(m:Int))=true:=by simp;omega
     have hc6:decide (t+1<m)=true:=by simp;omega
     clear hv hp hz1 hz HVB hG
     go_upto_region 11 with (fail)
     have Hb2:=ZZ (Hbk.out.set_ t q);have HE2:=ZZ (show Below w.heap.size w (wr.setCell ⟨w.heap.size,t,none⟩ (.int .i64 (q:Int))) from hbel.setCell (Nat.le_refl _) _);generalize wr.setCell ⟨w.heap.size,t,none⟩ (.int .i64 (q:Int))=wx at *;have eb:=ap HE2.out (HC.out (t+1) hl1);rw [←HZ.out] at eb;have hci2:=Hb2.out.cell t (by rw [List.length_set,Hr.out];omega);rw [show (r.set t q).getD t 0=q by simp [List.getD_eq_getElem?_getD,show t<r.length by rw [Hr.out];exact hlt]] at hci2;have hfi2:=Hb2.out.frozen t;have Hb3:=ZZ (fun d:Nat=>(Hb2.out.drewN d).set_ t v);clear hci hfi ea hbel
     go_big_region
     all_goals
      go_wp2_with fail
      go_roundw
      case rel=>
       refine⟨t+1,(r.set t q).set t v,by omega,by first|rfl|go_num,by rw [List.length_set,List.length_set,Hr.out],by rw [List.set_set];exact set_lt Hrl.out HVb.out t,?_,?_,?_⟩
       ·first|exact Hb3.out 1|exact Hb2.out.set_ t v
       ·exact(al HE2.out (ac _)).setCell (Nat.le_refl _) _
       ·have h1:=Hnum.out
        rw [←HXX.out] at h1;have h2:=right_step (y:=z) HFG.out h1;rw [List.set_set,num_set_take _ _ _ _ (by rw [Hr.out];omega),HTT.out,←HXX.out,Nat.pow_succ,←HZ.out,HV.out];exact h2
      case measure=>simp [intOf];omega
    ·have hc5:decide (((t+1:Nat):Int)<(m:Int))=false:=by simp;omega
     have hc6:decide (t+1<m)=false:=by simp;omega
     have hw8:IntKind.i64.wrap ((t:Int)+1)=((t+1:Nat):Int):=(IntWalk.i64_in _ (by omega)).trans (by omega);have Hb2:=ZZ (Hbk.out.set_ t q);have HE2:=ZZ (show Below w.heap.size w (wr.setCell ⟨w.heap.size,t,none⟩ (.int .i64 (q:Int))) from hbel.setCell (Nat.le_refl _) _);have HQB:=ZZ (show q<B30 by rw [B30_eq,HQ.out];have:=Nat.div_le_self x F;omega)
     have HST:=ZZ (show F*num B30 ((r.set t q).take (t+1))+y.getD 0 0 % F=num B30 (y.take (t+1))+B30 ^ (t+1)*(y.getD (t+1) 0 % F) by
      have h1:=Hnum.out;rw [←HXX.out] at h1;have h2:=right_step (y:=0) HFG.out h1;rw [num_set_take _ _ _ _ (by rw [Hr.out];omega),HTT.out,←HXX.out,Nat.pow_succ,show y.getD (t+1) 0=0 by rw [List.getD_eq_getElem?_getD,List.getElem?_eq_none (by rw [HY.out];omega)];rfl]
      simp only [Nat.zero_mod,Nat.zero_mul,Nat.add_zero] at h2 ⊢
      rw [HQ.out];exact h2)
     go_wp2_with fail
     go_roundw
     case rel=>exact⟨t+1,r.set t q,by omega,by first|rfl|go_num,by rw [List.length_set,Hr.out],set_lt Hrl.out HQB.out t,Hb2.out,HE2.out,HST.out⟩
     case measure=>simp [intOf];omega
   ·have htm:t=m:=by omega
    subst htm;have HCL:=ZZ Hbk.out.cl;go_wp2_with fail;refine(rcut_c _ r _ _ HCL.out t Hr.out (by omega) (by omega)).mono ?_;rintro e w2 ⟨rfl,rfl⟩;go_wp2_with fail;go_ret;refine⟨_,rfl,?_,hbel⟩;have h1:=Hnum.out;rw [num_take_all B30 y (by rw [HY.out];omega),num_take_all B30 r (by rw [Hr.out];omega),show y.getD t 0=0 by rw [List.getD_eq_getElem?_getD,List.getElem?_eq_none (by rw [HY.out];omega)];rfl,Nat.zero_mod,Nat.mul_zero,Nat.add_zero] at h1;have h2:=rcut_w Hrl.out HCL.out (c:=t) (by rw [Hr.out];omega);rw [HNY.out,←right_end hF0 h1 (Nat.mod_lt _ hF0)];exact h2
end Go.Proofs.YtjamgccgoapbeaaGreatDoor
