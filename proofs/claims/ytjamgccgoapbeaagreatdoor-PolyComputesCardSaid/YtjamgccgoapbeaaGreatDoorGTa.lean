/- Texts: rows of digits. The reference's natural numbers: a shift to the right. Sums of polynomials. Printed by gen_qi.py. Differences of polynomials. -/
import Derived.Test.YtjamgccgoapbeaaGreatDoorGShelf
import Derived.Test.YtjamgccgoapbeaaGreatDoorGRb
import Derived.Test.YtjamgccgoapbeaaGreatDoorGWj
import Derived.Shelf.Strings.SlTrimAscii
import Derived.Test.YtjamgccgoapbeaaGreatDoorGRd
import Derived.BigRegion
import Derived.Test.YtjamgccgoapbeaaGreatDoorGQh
set_option linter.unusedVariables false
set_option maxRecDepth 100000
set_option maxHeartbeats 64000000
namespace Go.Proofs.YtjamgccgoapbeaaGreatDoor
open Go.RowKit
def cs10:List UInt8:=[48,49,50,51,52,53,54,55,56,57]
theorem cs10_dig (c:UInt8):cs10.contains c=isDig c:=by
 rw [Bool.eq_iff_iff,isDig_iff]
 constructor
 ·intro h
  simp [cs10] at h
  rcases h with rfl|rfl|rfl|rfl|rfl|rfl|rfl|rfl|rfl|rfl <;> decide
 ·intro h
  have:∀k:Nat,48≤k→k≤57→cs10.contains (UInt8.ofNat k)=true:=by
   intro k h1 h2
   have:k=48∨k=49∨k=50∨k=51∨k=52∨k=53∨k=54∨k=55∨k=56∨k=57:=by omega
   rcases this with rfl|rfl|rfl|rfl|rfl|rfl|rfl|rfl|rfl|rfl <;> decide
  have h3:=this c.toNat h.1 h.2
  rwa [UInt8.ofNat_toNat] at h3
theorem dropWhile_empty (p:UInt8→Bool) (l:List UInt8):(l.dropWhile p).isEmpty=l.all p:=by
 induction l with
 | nil=>rfl
 | cons a l ih=>
  rw [List.dropWhile_cons]
  split
  ·rename_i h;rw [ih,List.all_cons,h,Bool.true_and]
  ·rename_i h;simp [h]
theorem all_dropWhile (p:UInt8→Bool) (l:List UInt8):(l.dropWhile p).all p=l.all p:=by
 induction l with
 | nil=>rfl
 | cons a l ih=>
  rw [List.dropWhile_cons]
  split
  ·rename_i h;rw [ih,List.all_cons,h,Bool.true_and]
  ·rfl
theorem trim_digits (l:List UInt8):(Lib.trimS l cs10).isEmpty=l.all isDig:=by
 unfold Lib.trimS Lib.trimLeftS Lib.trimRightS;rw [dropWhile_empty,List.all_reverse,all_dropWhile,List.all_reverse]
 congr 1
 funext c
 exact cs10_dig c
def digB (l:List UInt8):Bool:=!l.isEmpty && l.all isDig
def plainB (l:List UInt8):Bool:=digB l && (l == [48] || l.head? != some 48)
theorem plain_cons {c:UInt8} {t:List UInt8} (h:digB (c :: t)=true):(c == 48 && t.isEmpty || ((c.toNat:Int) != 48))=plainB (c :: t):=by
 unfold plainB;rw [h,Bool.true_and]
 congr 1
 ·cases t <;> simp
 ·rw [Bool.eq_iff_iff]
  simp only [bne_iff_ne,List.head?_cons,ne_eq,Option.some.injEq]
  constructor
  ·intro h e;exact h (by rw [e];rfl)
  ·intro h e;exact h (UInt8.toNat_inj.1 (by have:(48:UInt8).toNat=48:=rfl;omega))
theorem digits_c (l:List UInt8) (hs:l.length≤9223372036854775807) (w:World):Calls Tryz.prog 165 #[.string ⟨l.toArray⟩] w fun e w'=>e=.returned (.bool (digB l))∧Ext w w':=by
 have h:=Any.strings_Trim_laid Tryz.lays160 (by kernel_rfl) ⟨l.toArray⟩ ⟨#[48,49,50,51,52,53,54,55,56,57]⟩ w hs (by decide) (ascii_of_all (by decide));have h2:=trim_digits l;unfold cs10 at h2
 change Calls Tryz.prog _ _ _ (fun e w'=>e=.returned (.string ⟨(Lib.trimS l [48,49,50,51,52,53,54,55,56,57]).toArray⟩)∧Below w.heap.size w w') at h
 generalize Lib.trimS l [48,49,50,51,52,53,54,55,56,57]=t at h h2;have H:=ZZ h;have H2:=ZZ h2;clear h h2
 rcases Decidable.em (l=[]) with h0|h0
 ·subst h0
  go_enter Tryz.func165,Tryz.ntmps165
  go_wp2_with fail;go_ret
  exact⟨rfl,ae _⟩
 ·go_enter Tryz.func165,Tryz.ntmps165
  go_wp2_with fail;refine H.out.mono ?_
  rintro e w1 ⟨rfl,h1⟩;have H1:=ZZ h1;clear h1;go_wp2_with fail;go_ret;refine⟨?_,H1.out⟩;unfold digB;rw [←H2.out]
  rfl
theorem plain_c (l:List UInt8) (hs:l.length≤9223372036854775807) (w:World):Calls Tryz.prog 126 #[.string ⟨l.toArray⟩] w fun e w'=>e=.returned (.bool (plainB l))∧Ext w w':=by
 have hd:=digits_c l hs w
 rcases hb:digB l with _|_
 ·rw [hb] at hd
  have H:=ZZ hd;have HB:=ZZ hb;clear hd hb
  go_enter Tryz.func126,Tryz.ntmps126
  go_wp2_with fail;refine H.out.mono ?_
  rintro e w1 ⟨rfl,h1⟩;have H1:=ZZ h1;clear h1;go_wp2_with fail;go_ret;exact⟨by unfold plainB;rw [HB.out];rfl,H1.out⟩
 ·cases l with
  | nil=>simp [digB] at hb
  | cons c t=>
   rw [hb] at hd;have H:=ZZ hd;have HB:=ZZ hb;clear hd hb
   rcases Decidable.em (c=48) with hc|hc
   ·subst hc
    rcases Decidable.em (t=[]) with ht|ht
    ·subst ht
     go_enter Tryz.func126,Tryz.ntmps126
     go_wp2_with fail;refine H.out.mono ?_
     rintro e w1 ⟨rfl,h1⟩;have H1:=ZZ h1;clear h1;go_wp2_with fail;go_ret;exact⟨by rw [←plain_cons HB.out];rfl,H1.out⟩
    ·go_enter Tryz.func126,Tryz.ntmps126
     go_wp2_with fail;refine H.out.mono ?_
     rintro e w1 ⟨rfl,h1⟩;have H1:=ZZ h1;clear h1;go_wp2_with fail;go_ret;exact⟨by rw [←plain_cons HB.out];rfl,H1.out⟩
   ·go_enter Tryz.func126,Tryz.ntmps126
    go_wp2_with fail;refine H.out.mono ?_
    rintro e w1 ⟨rfl,h1⟩;have H1:=ZZ h1;clear h1;go_wp2_with fail;go_ret;exact⟨by rw [←plain_cons HB.out];rfl,H1.out⟩
end Go.Proofs.YtjamgccgoapbeaaGreatDoor
set_option linter.unusedVariables false
set_option maxRecDepth 100000
set_option maxHeartbeats 64000000
namespace Go.Proofs.YtjamgccgoapbeaaGreatDoor
open Go.RowKit
theorem pow_split (e:Nat) (h:e<30):∃F G:Nat,F=2 ^ e∧0<F∧0<G∧F*G=B30∧F≤536870912∧G=1073741824 / F:=by
 refine⟨2 ^ e,2 ^ (30 - e),rfl,Nat.pow_pos (by omega),Nat.pow_pos (by omega),?_,?_,?_⟩
 ·rw [←Nat.pow_add,show e+(30 - e)=30 by omega];rfl
 ·have:2 ^ e≤2 ^ 29:=Nat.pow_le_pow_right (by omega) (by omega)
  omega
 ·have h2:2 ^ e*2 ^ (30 - e)=1073741824:=by rw [←Nat.pow_add,show e+(30 - e)=30 by omega]
  rw [←h2,Nat.mul_div_cancel_left _ (Nat.pow_pos (by omega))]
theorem right_digit {F G B x y:Nat} (hF:0<F) (hG:0<G) (hB:F*G=B) (hx:x<B):x / F+y % F*G<B:=by
 have h1:x / F<G:=Nat.div_lt_of_lt_mul (by rw [hB];exact hx);have h2:y % F<F:=Nat.mod_lt _ hF;have h3:(y % F+1)*G≤F*G:=Nat.mul_le_mul_right _ h2;rw [Nat.add_mul,Nat.one_mul] at h3;omega
theorem right_step {F G B P R V x0 x y:Nat} (hB:F*G=B) (h:F*R+x0=V+P*(x % F)):F*(R+P*(x / F+y % F*G))+x0=V+P*x+P*B*(y % F):=by
 have h1:=Nat.div_add_mod x F;have h2:F*(P*(x / F+y % F*G))=P*(F*(x / F))+P*B*(y % F):=by rw [←hB];grind
 have h3:P*x=P*(F*(x / F))+P*(x % F):=by rw [←Nat.mul_add,h1]
 rw [Nat.mul_add,h2,h3];omega
theorem right_end {F R V x0:Nat} (hF:0<F) (h:F*R+x0=V) (hx:x0<F):R=V / F:=by
 rw [←h,Nat.mul_add_div hF,Nat.div_eq_of_lt hx,Nat.add_zero]
theorem right_r (va:Value) (n k:Nat) (hk:k≤35184372088832) (w:World) (ha:Wr w va n) (sa:Sr n):Calls Tryz.prog 169 #[va,.int .i64 k] w fun e w'=>∃v,e=.returned v∧Wr w' v (n / 2 ^ k)∧Ext w w':=by
 obtain⟨A,ca,rfl,hca,hA⟩:=ha;unfold Sr at sa;have en:=num_dr n;have nl:=dr_lt n;have hnn:=dr_norm n;generalize dr n=l at *;obtain⟨s,e,hse,he⟩:∃s e:Nat,k=30*s+e∧e<30:=⟨k / 30,k % 30,by omega,by omega⟩;have hq:(k:Int) / 30=(s:Int):=by omega
 have hr:(k:Int) % 30=(e:Int):=by omega
 have hwq:IntKind.i64.wrap (s:Int)=(s:Int):=IntWalk.i64_in _ (by omega);have hsb:s≤35184372088832:=by omega
 have HSE:=ZZ hse;have En:=ZZ en;have Nl:=ZZ nl;clear en nl hse
 by_cases hsl:l.length≤s
 ·have hc1:decide ((l.length:Int)≤(s:Int))=true:=by simp;omega
  have HZ:=ZZ (show n / 2 ^ k=0 by
   apply Nat.div_eq_of_lt
   have h1:=num_lt B30 l Nl.out;rw [En.out] at h1;have h2:B30 ^ l.length≤2 ^ k:=by rw [B30_pow,HSE.out];exact Nat.pow_le_pow_right (by omega) (by omega)
   omega)
  go_enter Tryz.func169,Tryz.ntmps169
  go_wp2_with fail;go_ret
  exact⟨_,rfl,by rw [HZ.out];exact Wr.zero _,ae _⟩
 ·have hc1:decide ((l.length:Int)≤(s:Int))=false:=by simp;omega
  obtain⟨b,o,rfl,hc⟩:=hA.i (by omega);obtain⟨F,G,hF,hF0,hG0,hFG,hFb,hG⟩:=pow_split e he;obtain⟨m,hm⟩:∃m,l.length=s+m:=⟨l.length - s,by omega⟩;obtain⟨y,hy⟩:∃y,y=l.drop s:=⟨_,rfl⟩;have hyl:y.length=m:=by rw [hy,List.length_drop,hm];omega
  have hyb:∀d ∈ y,d<B30:=fun d hd=>Nl.out d (by rw [hy] at hd;exact List.mem_of_mem_drop hd)
  have hcy:∀j,j<m→w.cell? ⟨b,o+s+j,none⟩=some (.int .i64 ((y.getD j 0:Nat):Int)):=fun j hj=>by
   have h1:=hc (s+j) (by omega);rw [show o+(s+j)=o+s+j by omega] at h1;rw [h1,hy]
   simp [List.getD_eq_getElem?_getD]
  have HNY:=ZZ (show n / 2 ^ k=num B30 y / F by
   have h1:=num_drop B30 l s (by omega);rw [En.out,←hy] at h1;have h2:=num_lt B30 (l.take s) (fun d hd=>Nl.out d (List.mem_of_mem_take hd));rw [List.length_take,Nat.min_eq_left (by omega)] at h2;rw [HSE.out,Nat.pow_add,←B30_pow,←Nat.div_div_eq_div_mul,←hF]
   congr 1
   rw [h1,Nat.add_comm,Nat.mul_add_div (Nat.pow_pos (by rw [B30_eq];omega)),Nat.div_eq_of_lt h2,Nat.add_zero])
  have HY:=ZZ hyl;have HYB:=ZZ hyb;have HC:=ZZ hcy;have HF:=ZZ hF;have HFG:=ZZ hFG;have hmk:=mk_digits m (m:Int) rfl (by omega);have hF':((2:Int) ^ e)=(F:Int):=by rw [hF];push_cast;rfl
  have hsh:IntKind.i64.wrap ((2:Int) ^ e)=(F:Int):=by rw [hF'];exact IntWalk.i64_in _ (by omega)
  have hmp:0<m:=by omega
  have hsc0:s+m≤ca:=by omega
  have hc2:decide ((s:Int)+(m:Int)≤(s:Int))=false:=by simp;omega
  have hc3:decide (s+m≤s)=false:=by simp;omega
  rw [hm];clear hc1 hsl;have hu:IntKind.u64.wrap (e:Int)=(e:Int):=IntWalk.u64_in _ (by omega);have hs0:(0:Int)≤(s:Int):=by omega
  have hsl':(s:Int)≤((s+m:Nat):Int):=by omega
  have hsc:((s+m:Nat):Int)≤(ca:Int):=by omega
  have hsum:s+m - s=m:=by omega
  clear hcy hyb hyl hy hc hA hF hFG hnn hF'
  go_enter Tryz.func169,Tryz.ntmps169
  go_wp2_with fail;clear hmk hc2 hc3
  go_loopw [7] (fun i wr=>∃(t:Nat) (r:List Nat),t≤m∧i=.int .i64 t∧r.length=m∧(∀d ∈ r,d<B30)∧BkI wr w.heap.size r∧Below w.heap.size w wr∧F*num B30 (r.take t)+y.getD 0 0 % F=num B30 (y.take t)+B30 ^ t*(y.getD t 0 % F)) (fun i _=>m - (intOf i).toNat)
  case atStart=>exact⟨0,zs m,Nat.zero_le _,rfl,zs_length _,zs_lt (by rw [B30_eq];omega) _,BkI.new _ _,ab _ _,by simp⟩
  case round=>
   obtain⟨t,r,ht,rfl,hr,hrl,hbk,hbel,hnum⟩:=hrel;have Hr:Hid (r.length=m):=hr;have Hrl:=ZZ hrl;have Hbk:Hid (BkI wr w.heap.size r):=hbk;have Hnum:=ZZ hnum;clear hr hrl hnum hbk
   by_cases hlt:t<m
   ·have ea:=ar hbel (HC.out t hlt)
    have hci:=Hbk.out.cell t (by rw [Hr.out];omega);have hfi:=Hbk.out.frozen t;have hxb:=getD_lt HYB.out (by rw [B30_eq];omega) t;have HX:=ZZ hxb;have HTT:=ZZ (num_take_le B30 y t);rw [B30_eq] at hxb;obtain⟨x,hx⟩:∃x,x=y.getD t 0:=⟨_,rfl⟩;rw [←hx] at ea hxb;have HXX:=ZZ hx;obtain⟨q,hq⟩:∃q,q=x / F:=⟨_,rfl⟩;have hqi:(x:Int) / (F:Int)=(q:Int):=by rw [hq];exact(Int.natCast_ediv x F).symm
    have hqb:q≤1073741824:=by rw [hq];have:=Nat.div_le_self x F;omega
    have hwq1:IntKind.i64.wrap (q:Int)=(q:Int):=IntWalk.i64_in _ (by omega);have HQ:=ZZ hq;have hF0':((F:Int) == 0)=false:=by rw [beq_eq_false_iff_ne];omega
    clear hx hq
    by_cases hl1:t+1<m
    ·obtain⟨z,hz⟩:∃z,z=y.getD (t+1) 0:=⟨_,rfl⟩
     have hzb:=getD_lt HYB.out (by rw [B30_eq];omega) (t+1);rw [←hz,B30_eq] at hzb;have HZ:=ZZ hz;obtain⟨z1,hz1⟩:∃z1,z1=z % F:=⟨_,rfl⟩;have hzi:(z:Int) % (F:Int)=(z1:Int):=by rw [hz1];exact(Int.natCast_emod z F).symm
     have hz1F:z1<F:=by rw [hz1];exact Nat.mod_lt _ hF0
     have hGi:(1073741824:Int) / (F:Int)=(G:Int):=by rw [hG];exact(Int.natCast_ediv 1073741824 F).symm
     have HVB:=right_digit (x:=x) (y:=z) hF0 hG0 HFG.out (by rw [B30_eq];exact hxb);rw [←HQ.out,←hz1,B30_eq] at HVB;have hGb:G≤1073741824:=by rw [hG];exact Nat.div_le_self _ _
     obtain⟨p,hp⟩:∃p,p=z1*G:=⟨_,rfl⟩;rw [←hp] at HVB;obtain⟨v,hv⟩:∃v,v=q+p:=⟨_,rfl⟩
     have hw5:IntKind.i64.wrap ((z1:Int)*(G:Int))=(p:Int):=by
      rw [show (z1:Int)*(G:Int)=(p:Int) by rw [hp];push_cast;rfl];exact IntWalk.i64_in _ (by omega)
     have hw6:IntKind.i64.wrap ((q:Int)+(p:Int))=(v:Int):=(IntWalk.i64_in _ (by omega)).trans (by omega);have hw7:IntKind.i64.wrap (G:Int)=(G:Int):=IntWalk.i64_in _ (by omega);have hw8:IntKind.i64.wrap ((t:Int)+1)=((t+1:Nat):Int):=(IntWalk.i64_in _ (by omega)).trans (by omega);have hvb:v<1073741824:=by omega
     have HV:=ZZ (show v=x / F+z % F*G by rw [hv,hp,hz1,HQ.out]);have HVb:=ZZ (show v<B30 by rw [B30_eq];exact hvb);have hc5:decide (((t+1:Nat):Int)<(m:Int))=true:=by simp;omega
     have hc6:decide (t+1<m)=true:=by simp;omega
     clear hv hp hz1 hz HVB hG
     go_upto_region 11 with (fail)
     have Hb2:=ZZ (Hbk.out.set_ t q);have HE2:=ZZ (show Below w.heap.size w (wr.setCell ⟨w.heap.size,t,none⟩ (.int .i64 (q:Int))) from hbel.setCell (Nat.le_refl _) _);generalize wr.setCell ⟨w.heap.size,t,none⟩ (.int .i64 (q:Int))=wx at *;have eb:=ar HE2.out (HC.out (t+1) hl1);rw [←HZ.out] at eb;have hci2:=Hb2.out.cell t (by rw [List.length_set,Hr.out];omega);rw [show (r.set t q).getD t 0=q by simp [List.getD_eq_getElem?_getD,show t<r.length by rw [Hr.out];exact hlt]] at hci2;have hfi2:=Hb2.out.frozen t;have Hb3:=ZZ (fun d:Nat=>(Hb2.out.drewN d).set_ t v);clear hci hfi ea hbel
     go_big_region
     all_goals
      go_wp2_with fail
      go_roundw
      case rel=>
       refine⟨t+1,(r.set t q).set t v,by omega,by first|rfl|go_num,by rw [List.length_set,List.length_set,Hr.out],by rw [List.set_set];exact set_lt Hrl.out HVb.out t,?_,?_,?_⟩
       ·first|exact Hb3.out 1|exact Hb2.out.set_ t v
       ·exact(am HE2.out (ac _)).setCell (Nat.le_refl _) _
       ·have h1:=Hnum.out
        rw [←HXX.out] at h1;have h2:=right_step (y:=z) HFG.out h1;rw [List.set_set,num_set_take _ _ _ _ (by rw [Hr.out];omega),HTT.out,←HXX.out,Nat.pow_succ,←HZ.out,HV.out];exact h2
      case measure=>simp [intOf];omega
    ·have hc5:decide (((t+1:Nat):Int)<(m:Int))=false:=by simp;omega
     have hc6:decide (t+1<m)=false:=by simp;omega
     have hw8:IntKind.i64.wrap ((t:Int)+1)=((t+1:Nat):Int):=(IntWalk.i64_in _ (by omega)).trans (by omega);have Hb2:=ZZ (Hbk.out.set_ t q);have HE2:=ZZ (show Below w.heap.size w (wr.setCell ⟨w.heap.size,t,none⟩ (.int .i64 (q:Int))) from hbel.setCell (Nat.le_refl _) _);have HQB:=ZZ (show q<B30 by rw [B30_eq,HQ.out];have:=Nat.div_le_self x F;omega)
     have HST:=ZZ (show F*num B30 ((r.set t q).take (t+1))+y.getD 0 0 % F=num B30 (y.take (t+1))+B30 ^ (t+1)*(y.getD (t+1) 0 % F) by
      have h1:=Hnum.out;rw [←HXX.out] at h1;have h2:=right_step (y:=0) HFG.out h1;rw [num_set_take _ _ _ _ (by rw [Hr.out];omega),HTT.out,←HXX.out,Nat.pow_succ,show y.getD (t+1) 0=0 by rw [List.getD_eq_getElem?_getD,List.getElem?_eq_none (by rw [HY.out];omega)];rfl]
      simp only [Nat.zero_mod,Nat.zero_mul,Nat.add_zero] at h2 ⊢
      rw [HQ.out];exact h2)
     go_wp2_with fail
     go_roundw
     case rel=>exact⟨t+1,r.set t q,by omega,by first|rfl|go_num,by rw [List.length_set,Hr.out],set_lt Hrl.out HQB.out t,Hb2.out,HE2.out,HST.out⟩
     case measure=>simp [intOf];omega
   ·have htm:t=m:=by omega
    subst htm;have HCL:=ZZ Hbk.out.cl;go_wp2_with fail;refine(rcut_c _ r _ _ HCL.out t Hr.out (by omega) (by omega)).mono ?_;rintro e w2 ⟨rfl,rfl⟩;go_wp2_with fail;go_ret;refine⟨_,rfl,?_,hbel⟩;have h1:=Hnum.out;rw [num_take_all B30 y (by rw [HY.out];omega),num_take_all B30 r (by rw [Hr.out];omega),show y.getD t 0=0 by rw [List.getD_eq_getElem?_getD,List.getElem?_eq_none (by rw [HY.out];omega)];rfl,Nat.zero_mod,Nat.mul_zero,Nat.add_zero] at h1;have h2:=rcut_w Hrl.out HCL.out (c:=t) (by rw [Hr.out];omega);rw [HNY.out,←right_end hF0 h1 (Nat.mod_lt _ hF0)];exact h2
end Go.Proofs.YtjamgccgoapbeaaGreatDoor
set_option linter.unusedVariables false
set_option maxRecDepth 100000
set_option maxHeartbeats 64000000
namespace Go.Proofs.YtjamgccgoapbeaaGreatDoor
open Go.RowKit
theorem add_le (M:Nat) (hM:M≤1099511627776) (vp vq:Value) (p q:List Rat) (hlp:p.length≤1000000) (hle:q.length≤p.length) (w:World) (hp:Pl w vp p) (hq:Pl w vq q) (hbp:∀x ∈ p,Bq M x) (hbq:∀x ∈ q,Bq M x):Calls Tryz.prog 28 #[vp,vq] w fun e w'=>∃v',e=.returned v'∧PlN w.heap.size w' v' (addF p q)∧Ext w w':=by
 obtain⟨A,cap,rfl,hc,hA⟩:=id hp;obtain⟨C,cap2,rfl,hc2,hC⟩:=id hq;obtain⟨m,hm⟩:∃m,p.length=m:=⟨_,rfl⟩;obtain⟨n,hn⟩:∃n,q.length=n:=⟨_,rfl⟩;rw [hm] at hp;rw [hm,hn];have HP:=ZZ hp;have HLP:=ZZ hlp;have HLE:=ZZ hle;have HMM:=ZZ hm;have HNN:=ZZ hn;have HCC:=ZZ hC;have HBP:=ZZ hbp;have HBQ:=ZZ hbq;have HM:=ZZ hM;have q0:decide ((m:Int)<(n:Int))=false:=decide_eq_false (by omega);have q0':decide (m<n)=false:=decide_eq_false (by omega);clear hp hq hlp hle hm hn hA hC hc hc2 hbp hbq hM
 go_enter Tryz.func28,Tryz.ntmps28
 go_wp2_with fail;refine(clone_q _ p HLP.out _ HP.out).mono ?_
 rintro e w3 ⟨v3,rfl,h3,k3⟩;have H3:=ZZ h3;have K3:=ZZ k3;clear h3 k3;go_wp2_with fail
 go_loopg [19] n (fun k i wr=>∃j,Hid (j+k=n)∧i=.int .i64 (j:Int)∧Hid (PlN w.heap.size wr v3 (stepL p q j))∧Hid (Ext w wr))
 case atStart=>exact⟨0,ZZ (Nat.zero_add _),rfl,ZZ (by rw [stepL_zero];exact H3.out),K3⟩
 case round=>
  obtain⟨j,HJ,rfl,HO,HE⟩:=hrel;rename World=>WR
  rcases Nat.eq_zero_or_pos gk with hz|hz
  ·subst hz
   obtain rfl:j=n:=HJ.out;have q1:decide ((j:Int)<(j:Int))=false:=decide_eq_false (Int.lt_irrefl _);go_wp2_with fail;refine(trim_q _ (stepL p q j) (by rw [stepL_len];exact HLP.out) _ HO.out.pl).mono ?_;rintro e w' ⟨v',rfl,hn,kk⟩;rw [show trimF (stepL p q j)=addF p q by rw [←addF_step p q HLE.out,HNN.out]] at hn;have HN:=ZZ hn;have HK2:=ZZ kk;clear hn kk;go_wp2_with fail;go_ret;refine⟨_,rfl,?_,am HE.out HK2.out⟩
   rcases HN.out with hn|⟨g,hg,hn⟩
   ·exact .inl hn
   ·exact .inr ⟨g,Nat.le_trans HE.out.size hg,hn⟩
  ·have hjn:j<n:=by have:=HJ.out;omega
   have hjp:j<p.length:=by have h1:=HLE.out;rw [HNN.out] at h1;omega
   have hjm:j<m:=by rw [←HMM.out];exact hjp
   have q1:decide ((j:Int)<(n:Int))=true:=decide_eq_true (by omega);have q1':decide (j<n)=true:=decide_eq_true hjn;have q4:(j:Int)<(n:Int):=by omega
   have q4':(j:Int)<(m:Int):=by omega
   have q5:(0:Int)≤(j:Int):=by omega
   rcases HCC.out with ⟨-,h5⟩|⟨b,o,rfl,ht⟩
   ·have:=HNN.out;rw [h5] at this;simp at this;omega
   rcases HO.out with ⟨-,h6⟩|⟨g,hg,hpo⟩
   ·have:=stepL_len p q j;rw [h6] at this;simp at this;omega
   have hq2:q[j]?=some (co q j):=by unfold co;rw [List.getElem?_eq_getElem (by rw [HNN.out];exact hjn)];rfl
   obtain⟨s2,A2,k2,ca2,B2,l2,cb2,c0,c1,c2,hn2⟩:=(ht j _ hq2).mono HE.out;obtain⟨cap3,cur3,e3,-⟩:=id hpo;rw [stepL_len,HMM.out] at e3;subst e3;have hp2:(stepL p q j)[j]?=some (co p j):=by rw [stepL_get p q j hjp,if_neg (Nat.lt_irrefl _)]
   have HP2:=ZZ hp2;have HG:=ZZ hg;have HZ:=ZZ hz;have HJP:=ZZ hjp;have BQ3:=ZZ (HBP.out (co p j) (List.mem_of_getElem? (show p[j]?=some (co p j) by unfold co;rw [List.getElem?_eq_getElem hjp];rfl)));have BQ2:=ZZ (HBQ.out (co q j) (List.mem_of_getElem? hq2));have N20:=ZZ (hn2.mono (ab WR (.cells #[.bool s2,.slice A2 k2 ca2,.slice B2 l2 cb2] 35)));have E6:=ZZ (ab WR (.cells #[.bool s2,.slice A2 k2 ca2,.slice B2 l2 cb2] 35));have R7:=ZZ (heap_alloc_new WR (.cells #[.bool s2,.slice A2 k2 ca2,.slice B2 l2 cb2] 35));have PO0:=ZZ hpo;clear hn2 hq2 hp2 ht hz hjn hjp hjm hpo hg
   go_upto_region 7 with (fail)
   generalize World.alloc WR (.cells #[.bool s2,.slice A2 k2 ca2,.slice B2 l2 cb2] _)=W6 at *;generalize WR.heap.size=g7 at *
   have PO:=ZZ (show ∀W,Ext W6 W→PlO W g (.slice (some ⟨g,0,none⟩) m cap3) (stepL p q j) from fun W k=>by
    obtain⟨cp,cur,e,hh,h1,h2,h3,h4⟩:=PO0.out;have kk:=am E6.out k;exact⟨cp,cur,e,(kk.block _ (lt_of_block hh)).trans hh,h1,h2,h3,fun i r hr=>(h4 i r hr).mono kk⟩)
   obtain⟨-,-,-,-,-,-,-,h4⟩:=PO.out W6 (ae _);obtain⟨s3,A3,k3,ca3,B3,l3,cb3,d0,d1,d2,hn3⟩:=h4 j _ HP2.out;have N3:=ZZ hn3;have N2:=N20
   have HC:=ZZ (show ∀W,Ext W6 W→W.cell? ⟨g,j*3,none⟩=some (.bool s3)∧W.cell? ⟨g,j*3+1,none⟩=some (.slice A3 k3 ca3)∧W.cell? ⟨g,j*3+2,none⟩=some (.slice B3 l3 cb3)∧W.cell? ⟨g7,0,none⟩=some (.bool s2)∧W.cell? ⟨g7,1,none⟩=some (.slice A2 k2 ca2)∧W.cell? ⟨g7,2,none⟩=some (.slice B2 l2 cb2) from fun W k=>by
    obtain⟨y0,y1,y2,-⟩:=aj ((k.block _ (lt_of_block R7.out)).trans R7.out);exact⟨ar k d0,ar k d1,ar k d2,y0,y1,y2⟩)
   clear c0 c1 c2 d0 d1 d2 hn3 h4;have hun:undef=.tuple #[]:=rfl;refine wp_region_noPanic ?_;refine region_L (S:=fun W=>W.cell? ⟨g,j*3,none⟩=some (.bool s3)∧W.cell? ⟨g,j*3+1,none⟩=some (.slice A3 k3 ca3)∧W.cell? ⟨g,j*3+2,none⟩=some (.slice B3 l3 cb3)∧W.cell? ⟨g7,0,none⟩=some (.bool s2)∧W.cell? ⟨g7,1,none⟩=some (.slice A2 k2 ca2)∧W.cell? ⟨g7,2,none⟩=some (.slice B2 l2 cb2)) 9 (by kernel_rfl) (HC.out _ (ac _)) (fun hHeld=>?_);refine take_b 0 24 ?_;refine take_b 1 25 ?_;refine take_b 2 26 ?_;refine take_b 3 27 ?_;refine take_b 4 28 ?_;refine take_b 5 29 ?_;refine take_b 6 30 ?_;refine call_L (i:=7) 31 rfl rfl (by kernel_rfl) (fun K hK=>?_)
   go_simp
   go_at_call 44
   refine(add_q M HM.out _ _ (co p j) (co q j) _ (N3.out.mono (ac _)) (N2.out.mono (ac _)) BQ3.out BQ2.out).mono ?_;rintro e w5 ⟨v5,rfl,h5,kk5⟩;obtain⟨s5,A5,k5,ca5,B5,l5,cb5,rfl⟩:=h5.form2;have H5:=ZZ h5;have hx2:=ZZ (show Ext W6 w5 from am (ac _) kk5);clear h5 kk5
   try go_wp2_with fail
   refine hK.out _ _ (HC.out _ hx2.out) (fun hHeld=>?_);clear hK K
   try simp only [Act.put,lyA,lyB,lyC]
   refine take_b 8 32 ?_;refine last_L rfl (by kernel_rfl) (by kernel_rfl) (fun K hK=>?_);have hp5:=PO.out w5 hx2.out;obtain⟨-,cur5,-,hh5,-⟩:=id hp5;have zf0:=frozen_row hh5 (j*3);have zf1:=frozen_row hh5 (j*3+1);have zf2:=frozen_row hh5 (j*3+2);obtain⟨z0,z1,z2,-⟩:=HC.out w5 hx2.out;clear hp5 hh5
   go_simp
   refine hK.out _ _ ?_;clear hK K
   try simp only [Act.put,lyA,lyB,lyC]
   refine NoPanic.normal ?_;have HP7:=ZZ (PlO.set (PO.out w5 hx2.out) (by rw [stepL_len];exact HJP.out) H5.out);have E7:=ZZ (show Ext w (put3at w5 g (j*3) (.bool s5) (.slice A5 k5 ca5) (.slice B5 l5 cb5)) from (((am HE.out (am E6.out hx2.out)).setCell HG.out _).setCell HG.out _).setCell HG.out _);go_wp2_with fail
   go_roundg (gk - 1)
   case measure=>have:=HZ.out;omega
   case rel=>
    refine⟨j+1,ZZ (by have:=HJ.out;have:=HZ.out;omega),by have h1:=HLP.out;have h2:=HJP.out;rw [IntWalk.wrap64_in _ ⟨by omega,by omega⟩];rfl,ZZ ?_,E7⟩;have h8:=HP7.out;rw [stepL_succ p q HJP.out] at h8;exact .inr ⟨g,HG.out,h8⟩
theorem add_gt (M:Nat) (hM:M≤1099511627776) (vp vq:Value) (p q:List Rat) (hlp:p.length≤1000000) (hlt:q.length<p.length) (w:World) (hp:Pl w vp p) (hq:Pl w vq q) (hbp:∀x ∈ p,Bq M x) (hbq:∀x ∈ q,Bq M x):Calls Tryz.prog 28 #[vq,vp] w fun e w'=>∃v',e=.returned v'∧PlN w.heap.size w' v' (addF p q)∧Ext w w':=by
 obtain⟨A,cap,rfl,hc,hA⟩:=id hp;obtain⟨C,cap2,rfl,hc2,hC⟩:=id hq;obtain⟨m,hm⟩:∃m,p.length=m:=⟨_,rfl⟩;obtain⟨n,hn⟩:∃n,q.length=n:=⟨_,rfl⟩;rw [hm] at hp;rw [hm,hn];have HP:=ZZ hp;have HLP:=ZZ hlp;have HLE:=ZZ (Nat.le_of_lt hlt);have HMM:=ZZ hm;have HNN:=ZZ hn;have HCC:=ZZ hC;have HBP:=ZZ hbp;have HBQ:=ZZ hbq;have HM:=ZZ hM;have q0:decide ((n:Int)<(m:Int))=true:=decide_eq_true (by omega);have q0':decide (n<m)=true:=decide_eq_true (by omega);clear hp hq hlp hlt hm hn hA hC hc hc2 hbp hbq hM
 go_enter Tryz.func28,Tryz.ntmps28
 go_wp2_with fail;refine(clone_q _ p HLP.out _ HP.out).mono ?_
 rintro e w3 ⟨v3,rfl,h3,k3⟩;have H3:=ZZ h3;have K3:=ZZ k3;clear h3 k3;go_wp2_with fail
 go_loopg [19] n (fun k i wr=>∃j,Hid (j+k=n)∧i=.int .i64 (j:Int)∧Hid (PlN w.heap.size wr v3 (stepL p q j))∧Hid (Ext w wr))
 case atStart=>exact⟨0,ZZ (Nat.zero_add _),rfl,ZZ (by rw [stepL_zero];exact H3.out),K3⟩
 case round=>
  obtain⟨j,HJ,rfl,HO,HE⟩:=hrel;rename World=>WR
  rcases Nat.eq_zero_or_pos gk with hz|hz
  ·subst hz
   obtain rfl:j=n:=HJ.out;have q1:decide ((j:Int)<(j:Int))=false:=decide_eq_false (Int.lt_irrefl _);go_wp2_with fail;refine(trim_q _ (stepL p q j) (by rw [stepL_len];exact HLP.out) _ HO.out.pl).mono ?_;rintro e w' ⟨v',rfl,hn,kk⟩;rw [show trimF (stepL p q j)=addF p q by rw [←addF_step p q HLE.out,HNN.out]] at hn;have HN:=ZZ hn;have HK2:=ZZ kk;clear hn kk;go_wp2_with fail;go_ret;refine⟨_,rfl,?_,am HE.out HK2.out⟩
   rcases HN.out with hn|⟨g,hg,hn⟩
   ·exact .inl hn
   ·exact .inr ⟨g,Nat.le_trans HE.out.size hg,hn⟩
  ·have hjn:j<n:=by have:=HJ.out;omega
   have hjp:j<p.length:=by have h1:=HLE.out;rw [HNN.out] at h1;omega
   have hjm:j<m:=by rw [←HMM.out];exact hjp
   have q1:decide ((j:Int)<(n:Int))=true:=decide_eq_true (by omega);have q1':decide (j<n)=true:=decide_eq_true hjn;have q4:(j:Int)<(n:Int):=by omega
   have q4':(j:Int)<(m:Int):=by omega
   have q5:(0:Int)≤(j:Int):=by omega
   rcases HCC.out with ⟨-,h5⟩|⟨b,o,rfl,ht⟩
   ·have:=HNN.out;rw [h5] at this;simp at this;omega
   rcases HO.out with ⟨-,h6⟩|⟨g,hg,hpo⟩
   ·have:=stepL_len p q j;rw [h6] at this;simp at this;omega
   have hq2:q[j]?=some (co q j):=by unfold co;rw [List.getElem?_eq_getElem (by rw [HNN.out];exact hjn)];rfl
   obtain⟨s2,A2,k2,ca2,B2,l2,cb2,c0,c1,c2,hn2⟩:=(ht j _ hq2).mono HE.out;obtain⟨cap3,cur3,e3,-⟩:=id hpo;rw [stepL_len,HMM.out] at e3;subst e3;have hp2:(stepL p q j)[j]?=some (co p j):=by rw [stepL_get p q j hjp,if_neg (Nat.lt_irrefl _)]
   have HP2:=ZZ hp2;have HG:=ZZ hg;have HZ:=ZZ hz;have HJP:=ZZ hjp;have BQ3:=ZZ (HBP.out (co p j) (List.mem_of_getElem? (show p[j]?=some (co p j) by unfold co;rw [List.getElem?_eq_getElem hjp];rfl)));have BQ2:=ZZ (HBQ.out (co q j) (List.mem_of_getElem? hq2));have N20:=ZZ (hn2.mono (ab WR (.cells #[.bool s2,.slice A2 k2 ca2,.slice B2 l2 cb2] 35)));have E6:=ZZ (ab WR (.cells #[.bool s2,.slice A2 k2 ca2,.slice B2 l2 cb2] 35));have R7:=ZZ (heap_alloc_new WR (.cells #[.bool s2,.slice A2 k2 ca2,.slice B2 l2 cb2] 35));have PO0:=ZZ hpo;clear hn2 hq2 hp2 ht hz hjn hjp hjm hpo hg
   go_upto_region 7 with (fail)
   generalize World.alloc WR (.cells #[.bool s2,.slice A2 k2 ca2,.slice B2 l2 cb2] _)=W6 at *;generalize WR.heap.size=g7 at *
   have PO:=ZZ (show ∀W,Ext W6 W→PlO W g (.slice (some ⟨g,0,none⟩) m cap3) (stepL p q j) from fun W k=>by
    obtain⟨cp,cur,e,hh,h1,h2,h3,h4⟩:=PO0.out;have kk:=am E6.out k;exact⟨cp,cur,e,(kk.block _ (lt_of_block hh)).trans hh,h1,h2,h3,fun i r hr=>(h4 i r hr).mono kk⟩)
   obtain⟨-,-,-,-,-,-,-,h4⟩:=PO.out W6 (ae _);obtain⟨s3,A3,k3,ca3,B3,l3,cb3,d0,d1,d2,hn3⟩:=h4 j _ HP2.out;have N3:=ZZ hn3;have N2:=N20
   have HC:=ZZ (show ∀W,Ext W6 W→W.cell? ⟨g,j*3,none⟩=some (.bool s3)∧W.cell? ⟨g,j*3+1,none⟩=some (.slice A3 k3 ca3)∧W.cell? ⟨g,j*3+2,none⟩=some (.slice B3 l3 cb3)∧W.cell? ⟨g7,0,none⟩=some (.bool s2)∧W.cell? ⟨g7,1,none⟩=some (.slice A2 k2 ca2)∧W.cell? ⟨g7,2,none⟩=some (.slice B2 l2 cb2) from fun W k=>by
    obtain⟨y0,y1,y2,-⟩:=aj ((k.block _ (lt_of_block R7.out)).trans R7.out);exact⟨ar k d0,ar k d1,ar k d2,y0,y1,y2⟩)
   clear c0 c1 c2 d0 d1 d2 hn3 h4;have hun:undef=.tuple #[]:=rfl;refine wp_region_noPanic ?_;refine region_L (S:=fun W=>W.cell? ⟨g,j*3,none⟩=some (.bool s3)∧W.cell? ⟨g,j*3+1,none⟩=some (.slice A3 k3 ca3)∧W.cell? ⟨g,j*3+2,none⟩=some (.slice B3 l3 cb3)∧W.cell? ⟨g7,0,none⟩=some (.bool s2)∧W.cell? ⟨g7,1,none⟩=some (.slice A2 k2 ca2)∧W.cell? ⟨g7,2,none⟩=some (.slice B2 l2 cb2)) 9 (by kernel_rfl) (HC.out _ (ac _)) (fun hHeld=>?_);refine take_b 0 24 ?_;refine take_b 1 25 ?_;refine take_b 2 26 ?_;refine take_b 3 27 ?_;refine take_b 4 28 ?_;refine take_b 5 29 ?_;refine take_b 6 30 ?_;refine call_L (i:=7) 31 rfl rfl (by kernel_rfl) (fun K hK=>?_)
   go_simp
   go_at_call 44
   refine(add_q M HM.out _ _ (co p j) (co q j) _ (N3.out.mono (ac _)) (N2.out.mono (ac _)) BQ3.out BQ2.out).mono ?_;rintro e w5 ⟨v5,rfl,h5,kk5⟩;obtain⟨s5,A5,k5,ca5,B5,l5,cb5,rfl⟩:=h5.form2;have H5:=ZZ h5;have hx2:=ZZ (show Ext W6 w5 from am (ac _) kk5);clear h5 kk5
   try go_wp2_with fail
   refine hK.out _ _ (HC.out _ hx2.out) (fun hHeld=>?_);clear hK K
   try simp only [Act.put,lyA,lyB,lyC]
   refine take_b 8 32 ?_;refine last_L rfl (by kernel_rfl) (by kernel_rfl) (fun K hK=>?_);have hp5:=PO.out w5 hx2.out;obtain⟨-,cur5,-,hh5,-⟩:=id hp5;have zf0:=frozen_row hh5 (j*3);have zf1:=frozen_row hh5 (j*3+1);have zf2:=frozen_row hh5 (j*3+2);obtain⟨z0,z1,z2,-⟩:=HC.out w5 hx2.out;clear hp5 hh5
   go_simp
   refine hK.out _ _ ?_;clear hK K
   try simp only [Act.put,lyA,lyB,lyC]
   refine NoPanic.normal ?_;have HP7:=ZZ (PlO.set (PO.out w5 hx2.out) (by rw [stepL_len];exact HJP.out) H5.out);have E7:=ZZ (show Ext w (put3at w5 g (j*3) (.bool s5) (.slice A5 k5 ca5) (.slice B5 l5 cb5)) from (((am HE.out (am E6.out hx2.out)).setCell HG.out _).setCell HG.out _).setCell HG.out _);go_wp2_with fail
   go_roundg (gk - 1)
   case measure=>have:=HZ.out;omega
   case rel=>
    refine⟨j+1,ZZ (by have:=HJ.out;have:=HZ.out;omega),by have h1:=HLP.out;have h2:=HJP.out;rw [IntWalk.wrap64_in _ ⟨by omega,by omega⟩];rfl,ZZ ?_,E7⟩;have h8:=HP7.out;rw [stepL_succ p q HJP.out] at h8;exact .inr ⟨g,HG.out,h8⟩
theorem add_p (M:Nat) (hM:M≤1099511627776) (vp vq:Value) (p q:List Rat) (hlp:p.length≤1000000) (hlq:q.length≤1000000) (w:World) (hp:Pl w vp p) (hq:Pl w vq q) (hbp:∀x ∈ p,Bq M x) (hbq:∀x ∈ q,Bq M x):Calls Tryz.prog 28 #[vp,vq] w fun e w'=>∃v',e=.returned v'∧PlN w.heap.size w' v' (addF p q)∧Ext w w':=by
 rcases Nat.lt_or_ge p.length q.length with h|h
 ·rw [addF_comm]
  exact add_gt M hM vq vp q p hlq h w hq hp hbq hbp
 ·exact add_le M hM vp vq p q hlp h w hp hq hbp hbq
end Go.Proofs.YtjamgccgoapbeaaGreatDoor
set_option linter.unusedVariables false
set_option maxRecDepth 100000
set_option maxHeartbeats 64000000
namespace Go.Proofs.YtjamgccgoapbeaaGreatDoor
open Go.RowKit
theorem trim_mem {p:List Rat} {x:Rat} (h:x ∈ trimF p):x ∈ p:=by
 induction p with
 | nil=>exact h
 | cons a p ih=>
  have e:trimF (a :: p)=if trimF p=[] then (if a=0 then [] else [a]) else a :: trimF p:=rfl;rw [e] at h
  split at h
  ·split at h
   ·cases h
   ·rw [List.mem_singleton.1 h];exact List.mem_cons_self ..
  ·rcases List.mem_cons.1 h with h|h
   ·rw [h];exact List.mem_cons_self ..
   ·exact List.mem_cons_of_mem _ (ih h)
theorem bq_scale {M K:Nat} {p:List Rat} {x:Rat} (h:∀q ∈ p,Bq M q) (hx:Bq K x):∀q ∈ scaleF p x,Bq (M+K) q:=by
 intro q hq;obtain⟨r,hr,rfl⟩:=List.mem_map.1 (trim_mem hq);exact(h r hr).mul hx
def subF (p q:List Rat):List Rat:=addF p (scaleF q (-1))
theorem sub_p (M:Nat) (hM:M≤1099511627000) (vp vq:Value) (p q:List Rat) (hlp:p.length≤1000000) (hlq:q.length≤1000000) (w:World) (hp:Pl w vp p) (hq:Pl w vq q) (hbp:∀x ∈ p,Bq M x) (hbq:∀x ∈ q,Bq M x):Calls Tryz.prog 30 #[vp,vq] w fun e w'=>∃v',e=.returned v'∧PlN w.heap.size w' v' (subF p q)∧Ext w w':=by
 have HP:=ZZ hp;have HQ:=ZZ hq;have HLP:=ZZ hlp;have HLQ:=ZZ hlq;have HBP:=ZZ hbp;have HBQ:=ZZ hbq;have HM:=ZZ hM;clear hp hq hlp hlq hbp hbq hM
 go_enter Tryz.func30,Tryz.ntmps30
 go_wp2_with fail;refine(int_q (-1) (by decide) (by decide) w).mono ?_
 rintro e w3 ⟨v3,rfl,h3,k3⟩;have H3:=ZZ (show Nm w3 v3 (-1) from h3);have K3:=ZZ k3;clear h3 k3;go_wp2_with fail;have BN:=ZZ (show Bq 64 (-1:Rat) from bq_int (-1) (by decide) (by decide));refine(scale_q (M+64) (by have:=HM.out;omega) _ _ q (-1) HLQ.out _ (HQ.out.mono K3.out) H3.out (fun x hx=>(HBQ.out x hx).mono (by omega)) (BN.out.mono (by omega))).mono ?_;rintro e w5 ⟨v5,rfl,h5,k5⟩;have H5:=ZZ h5.pl;have K5:=ZZ (am K3.out k5);clear h5 k5;go_wp2_with fail;refine(add_p (M+64) (by have:=HM.out;omega) _ _ p (scaleF q (-1)) HLP.out (Nat.le_trans (trim_le _) (by rw [List.length_map];exact HLQ.out)) _ (HP.out.mono K5.out) H5.out (fun x hx=>(HBP.out x hx).mono (by omega)) (bq_scale HBQ.out BN.out)).mono ?_;rintro e w6 ⟨v6,rfl,h6,k6⟩;have H6:=ZZ h6;have K6:=ZZ k6;clear h6 k6;go_wp2_with fail;go_ret;refine⟨_,rfl,?_,am K5.out K6.out⟩
 rcases H6.out with hn|⟨g,hg,hn⟩
 ·exact .inl hn
 ·exact .inr ⟨g,Nat.le_trans K5.out.size hg,hn⟩
end Go.Proofs.YtjamgccgoapbeaaGreatDoor
