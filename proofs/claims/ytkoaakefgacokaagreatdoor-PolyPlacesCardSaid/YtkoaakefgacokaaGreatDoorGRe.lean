/- The reference's natural numbers: a shift to the right. -/
import Derived.Test.YtkoaakefgacokaaGreatDoorGRd
import Derived.BigRegion
import Derived.Test.YtkoaakefgacokaaGreatDoorGRat
import Derived.Test.YtkoaakefgacokaaGreatDoorGNg
import Derived.Laws.AppendOwn
import Derived.Test.YtkoaakefgacokaaGreatDoorGShelfB
import Derived.Deep.LoopGhost
import Derived.Deep.DeepCutAuto
set_option linter.unusedVariables false
set_option maxRecDepth 100000
set_option maxHeartbeats 64000000
namespace Go.Proofs.YtkoaakefgacokaaGreatDoor
open Go.RowKit
theorem pow_split (e:Nat) (h:e<30):∃F G:Nat,F=2 ^ e∧0<F∧0<G∧F*G=B30∧F≤536870912∧G=1073741824 / F:=by
 refine⟨2 ^ e,2 ^ (30 - e),rfl,Nat.pow_pos (by omega),Nat.pow_pos (by omega),?_,?_,?_⟩
 ·rw [←Nat.pow_add,show e+(30 - e)=30 by omega];rfl
 ·have:2 ^ e≤2 ^ 29:=Nat.pow_le_pow_right (by omega) (by omega)
  omega
 ·have h2:2 ^ e*2 ^ (30 - e)=1073741824:=by rw [←Nat.pow_add,show e+(30 - e)=30 by omega]
  rw [←h2,Nat.mul_div_cancel_left _ (Nat.pow_pos (by omega))]
theorem right_digit {F G B x y:Nat} (hF:0<F) (hG:0<G) (hB:F*G=B) (hx:x<B):x / F+y % F*G<B:=by
 have h1:x / F<G:=Nat.div_lt_of_lt_mul (by rw [hB];exact hx);have h2:y % F<F:=Nat.mod_lt _ hF;have h3:(y % F+1)*G≤F*G:=Nat.mul_le_mul_right _ h2;rw [Nat.add_mul,Nat.one_mul] at h3;omega
theorem right_step {F G B P R V x0 x y:Nat} (hB:F*G=B) (h:F*R+x0=V+P*(x % F)):F*(R+P*(x / F+y % F*G))+x0=V+P*x+P*B*(y % F):=by
 have h1:=Nat.div_add_mod x F;have h2:F*(P*(x / F+y % F*G))=P*(F*(x / F))+P*B*(y % F):=by rw [←hB];grind
 have h3:P*x=P*(F*(x / F))+P*(x % F):=by rw [←Nat.mul_add,h1]
 rw [Nat.mul_add,h2,h3];omega
theorem right_end {F R V x0:Nat} (hF:0<F) (h:F*R+x0=V) (hx:x0<F):R=V / F:=by
 rw [←h,Nat.mul_add_div hF,Nat.div_eq_of_lt hx,Nat.add_zero]
theorem right_r (va:Value) (n k:Nat) (hk:k≤35184372088832) (w:World) (ha:Wr w va n) (sa:Sr n):Calls Tryz.prog 101 #[va,.int .i64 k] w fun e w'=>∃v,e=.returned v∧Wr w' v (n / 2 ^ k)∧Ext w w':=by
 obtain⟨A,ca,rfl,hca,hA⟩:=ha;unfold Sr at sa;have en:=num_dr n;have nl:=dr_lt n;have hnn:=dr_norm n;generalize dr n=l at *;obtain⟨s,e,hse,he⟩:∃s e:Nat,k=30*s+e∧e<30:=⟨k / 30,k % 30,by omega,by omega⟩;have hq:(k:Int) / 30=(s:Int):=by omega
 have hr:(k:Int) % 30=(e:Int):=by omega
 have hwq:IntKind.i64.wrap (s:Int)=(s:Int):=IntWalk.i64_in _ (by omega);have hsb:s≤35184372088832:=by omega
 have HSE:=ZZ hse;have En:=ZZ en;have Nl:=ZZ nl;clear en nl hse
 by_cases hsl:l.length≤s
 ·have hc1:decide ((l.length:Int)≤(s:Int))=true:=by simp;omega
  have HZ:=ZZ (show n / 2 ^ k=0 by
   apply Nat.div_eq_of_lt
   have h1:=num_lt B30 l Nl.out;rw [En.out] at h1;have h2:B30 ^ l.length≤2 ^ k:=by rw [B30_pow,HSE.out];exact Nat.pow_le_pow_right (by omega) (by omega)
   omega)
  go_enter Tryz.func101,Tryz.ntmps101
  go_wp2_with fail;go_ret
  exact⟨_,rfl,by rw [HZ.out];exact Wr.zero _,ae _⟩
 ·have hc1:decide ((l.length:Int)≤(s:Int))=false:=by simp;omega
  obtain⟨b,o,rfl,hc⟩:=hA.i (by omega);obtain⟨F,G,hF,hF0,hG0,hFG,hFb,hG⟩:=pow_split e he;obtain⟨m,hm⟩:∃m,l.length=s+m:=⟨l.length - s,by omega⟩;obtain⟨y,hy⟩:∃y,y=l.drop s:=⟨_,rfl⟩;have hyl:y.length=m:=by rw [hy,List.length_drop,hm];omega
  have hyb:∀d ∈ y,d<B30:=fun d hd=>Nl.out d (by rw [hy] at hd;exact List.mem_of_mem_drop hd)
  have hcy:∀j,j<m→w.cell? ⟨b,o+s+j,none⟩=some (.int .i64 ((y.getD j 0:Nat):Int)):=fun j hj=>by
   have h1:=hc (s+j) (by omega);rw [show o+(s+j)=o+s+j by omega] at h1;rw [h1,hy]
   simp [List.getD_eq_getElem?_getD]
  have HNY:=ZZ (show n / 2 ^ k=num B30 y / F by
   have h1:=num_drop B30 l s (by omega);rw [En.out,←hy] at h1;have h2:=num_lt B30 (l.take s) (fun d hd=>Nl.out d (List.mem_of_mem_take hd));rw [List.length_take,Nat.min_eq_left (by omega)] at h2;rw [HSE.out,Nat.pow_add,←B30_pow,←Nat.div_div_eq_div_mul,←hF]
   congr 1
   rw [h1,Nat.add_comm,Nat.mul_add_div (Nat.pow_pos (by rw [B30_eq];omega)),Nat.div_eq_of_lt h2,Nat.add_zero])
  have HY:=ZZ hyl;have HYB:=ZZ hyb;have HC:=ZZ hcy;have HF:=ZZ hF;have HFG:=ZZ hFG;have hmk:=mk_digits m (m:Int) rfl (by omega);have hF':((2:Int) ^ e)=(F:Int):=by rw [hF];push_cast;rfl
  have hsh:IntKind.i64.wrap ((2:Int) ^ e)=(F:Int):=by rw [hF'];exact IntWalk.i64_in _ (by omega)
  have hmp:0<m:=by omega
  have hsc0:s+m≤ca:=by omega
  have hc2:decide ((s:Int)+(m:Int)≤(s:Int))=false:=by simp;omega
  have hc3:decide (s+m≤s)=false:=by simp;omega
  rw [hm];clear hc1 hsl;have hu:IntKind.u64.wrap (e:Int)=(e:Int):=IntWalk.u64_in _ (by omega);have hs0:(0:Int)≤(s:Int):=by omega
  have hsl':(s:Int)≤((s+m:Nat):Int):=by omega
  have hsc:((s+m:Nat):Int)≤(ca:Int):=by omega
  have hsum:s+m - s=m:=by omega
  clear hcy hyb hyl hy hc hA hF hFG hnn hF'
  go_enter Tryz.func101,Tryz.ntmps101
  go_wp2_with fail;clear hmk hc2 hc3
  go_loopw [7] (fun i wr=>∃(t:Nat) (r:List Nat),t≤m∧i=.int .i64 t∧r.length=m∧(∀d ∈ r,d<B30)∧BkI wr w.heap.size r∧Below w.heap.size w wr∧F*num B30 (r.take t)+y.getD 0 0 % F=num B30 (y.take t)+B30 ^ t*(y.getD t 0 % F)) (fun i _=>m - (intOf i).toNat)
  case atStart=>exact⟨0,zs m,Nat.zero_le _,rfl,zs_length _,zs_lt (by rw [B30_eq];omega) _,BkI.new _ _,ab _ _,by simp⟩
  case round=>
   obtain⟨t,r,ht,rfl,hr,hrl,hbk,hbel,hnum⟩:=hrel;have Hr:Hid (r.length=m):=hr;have Hrl:=ZZ hrl;have Hbk:Hid (BkI wr w.heap.size r):=hbk;have Hnum:=ZZ hnum;clear hr hrl hnum hbk
   by_cases hlt:t<m
   ·have ea:=ao hbel (HC.out t hlt)
    have hci:=Hbk.out.cell t (by rw [Hr.out];omega);have hfi:=Hbk.out.frozen t;have hxb:=getD_lt HYB.out (by rw [B30_eq];omega) t;have HX:=ZZ hxb;have HTT:=ZZ (num_take_le B30 y t);rw [B30_eq] at hxb;obtain⟨x,hx⟩:∃x,x=y.getD t 0:=⟨_,rfl⟩;rw [←hx] at ea hxb;have HXX:=ZZ hx;obtain⟨q,hq⟩:∃q,q=x / F:=⟨_,rfl⟩;have hqi:(x:Int) / (F:Int)=(q:Int):=by rw [hq];exact(Int.natCast_ediv x F).symm
    have hqb:q≤1073741824:=by rw [hq];have:=Nat.div_le_self x F;omega
    have hwq1:IntKind.i64.wrap (q:Int)=(q:Int):=IntWalk.i64_in _ (by omega);have HQ:=ZZ hq;have hF0':((F:Int) == 0)=false:=by rw [beq_eq_false_iff_ne];omega
    clear hx hq
    by_cases hl1:t+1<m
    ·obtain⟨z,hz⟩:∃z,z=y.getD (t+1) 0:=⟨_,rfl⟩
     have hzb:=getD_lt HYB.out (by rw [B30_eq];omega) (t+1);rw [←hz,B30_eq] at hzb;have HZ:=ZZ hz;obtain⟨z1,hz1⟩:∃z1,z1=z % F:=⟨_,rfl⟩;have hzi:(z:Int) % (F:Int)=(z1:Int):=by rw [hz1];exact(Int.natCast_emod z F).symm
     have hz1F:z1<F:=by rw [hz1];exact Nat.mod_lt _ hF0
     have hGi:(1073741824:Int) / (F:Int)=(G:Int):=by rw [hG];exact(Int.natCast_ediv 1073741824 F).symm
     have HVB:=right_digit (x:=x) (y:=z) hF0 hG0 HFG.out (by rw [B30_eq];exact hxb);rw [←HQ.out,←hz1,B30_eq] at HVB;have hGb:G≤1073741824:=by rw [hG];exact Nat.div_le_self _ _
     obtain⟨p,hp⟩:∃p,p=z1*G:=⟨_,rfl⟩;rw [←hp] at HVB;obtain⟨v,hv⟩:∃v,v=q+p:=⟨_,rfl⟩
     have hw5:IntKind.i64.wrap ((z1:Int)*(G:Int))=(p:Int):=by
      rw [show (z1:Int)*(G:Int)=(p:Int) by rw [hp];push_cast;rfl];exact IntWalk.i64_in _ (by omega)
     have hw6:IntKind.i64.wrap ((q:Int)+(p:Int))=(v:Int):=(IntWalk.i64_in _ (by omega)).trans (by omega);have hw7:IntKind.i64.wrap (G:Int)=(G:Int):=IntWalk.i64_in _ (by omega);have hw8:IntKind.i64.wrap ((t:Int)+1)=((t+1:Nat):Int):=(IntWalk.i64_in _ (by omega)).trans (by omega);have hvb:v<1073741824:=by omega
     have HV:=ZZ (show v=x / F+z % F*G by rw [hv,hp,hz1,HQ.out]);have HVb:=ZZ (show v<B30 by rw [B30_eq];exact hvb);have hc5:decide (((t+1:Nat):Int)<(m:Int))=true:=by simp;omega
     have hc6:decide (t+1<m)=true:=by simp;omega
     clear hv hp hz1 hz HVB hG
     go_upto_region 11 with (fail)
     have Hb2:=ZZ (Hbk.out.set_ t q);have HE2:=ZZ (show Below w.heap.size w (wr.setCell ⟨w.heap.size,t,none⟩ (.int .i64 (q:Int))) from hbel.setCell (Nat.le_refl _) _);generalize wr.setCell ⟨w.heap.size,t,none⟩ (.int .i64 (q:Int))=wx at *;have eb:=ao HE2.out (HC.out (t+1) hl1);rw [←HZ.out] at eb;have hci2:=Hb2.out.cell t (by rw [List.length_set,Hr.out];omega);rw [show (r.set t q).getD t 0=q by simp [List.getD_eq_getElem?_getD,show t<r.length by rw [Hr.out];exact hlt]] at hci2;have hfi2:=Hb2.out.frozen t;have Hb3:=ZZ (fun d:Nat=>(Hb2.out.drewN d).set_ t v);clear hci hfi ea hbel
     go_big_region
     all_goals
      go_wp2_with fail
      go_roundw
      case rel=>
       refine⟨t+1,(r.set t q).set t v,by omega,by first|rfl|go_num,by rw [List.length_set,List.length_set,Hr.out],by rw [List.set_set];exact set_lt Hrl.out HVb.out t,?_,?_,?_⟩
       ·first|exact Hb3.out 1|exact Hb2.out.set_ t v
       ·exact(al HE2.out (ac _)).setCell (Nat.le_refl _) _
       ·have h1:=Hnum.out
        rw [←HXX.out] at h1;have h2:=right_step (y:=z) HFG.out h1;rw [List.set_set,num_set_take _ _ _ _ (by rw [Hr.out];omega),HTT.out,←HXX.out,Nat.pow_succ,←HZ.out,HV.out];exact h2
      case measure=>simp [intOf];omega
    ·have hc5:decide (((t+1:Nat):Int)<(m:Int))=false:=by simp;omega
     have hc6:decide (t+1<m)=false:=by simp;omega
     have hw8:IntKind.i64.wrap ((t:Int)+1)=((t+1:Nat):Int):=(IntWalk.i64_in _ (by omega)).trans (by omega);have Hb2:=ZZ (Hbk.out.set_ t q);have HE2:=ZZ (show Below w.heap.size w (wr.setCell ⟨w.heap.size,t,none⟩ (.int .i64 (q:Int))) from hbel.setCell (Nat.le_refl _) _);have HQB:=ZZ (show q<B30 by rw [B30_eq,HQ.out];have:=Nat.div_le_self x F;omega)
     have HST:=ZZ (show F*num B30 ((r.set t q).take (t+1))+y.getD 0 0 % F=num B30 (y.take (t+1))+B30 ^ (t+1)*(y.getD (t+1) 0 % F) by
      have h1:=Hnum.out;rw [←HXX.out] at h1;have h2:=right_step (y:=0) HFG.out h1;rw [num_set_take _ _ _ _ (by rw [Hr.out];omega),HTT.out,←HXX.out,Nat.pow_succ,show y.getD (t+1) 0=0 by rw [List.getD_eq_getElem?_getD,List.getElem?_eq_none (by rw [HY.out];omega)];rfl]
      simp only [Nat.zero_mod,Nat.zero_mul,Nat.add_zero] at h2 ⊢
      rw [HQ.out];exact h2)
     go_wp2_with fail
     go_roundw
     case rel=>exact⟨t+1,r.set t q,by omega,by first|rfl|go_num,by rw [List.length_set,Hr.out],set_lt Hrl.out HQB.out t,Hb2.out,HE2.out,HST.out⟩
     case measure=>simp [intOf];omega
   ·have htm:t=m:=by omega
    subst htm;have HCL:=ZZ Hbk.out.cl;go_wp2_with fail;refine(rcut_c _ r _ _ HCL.out t Hr.out (by omega) (by omega)).mono ?_;rintro e w2 ⟨rfl,rfl⟩;go_wp2_with fail;go_ret;refine⟨_,rfl,?_,hbel⟩;have h1:=Hnum.out;rw [num_take_all B30 y (by rw [HY.out];omega),num_take_all B30 r (by rw [Hr.out];omega),show y.getD t 0=0 by rw [List.getD_eq_getElem?_getD,List.getElem?_eq_none (by rw [HY.out];omega)];rfl,Nat.zero_mod,Nat.mul_zero,Nat.add_zero] at h1;have h2:=rcut_w Hrl.out HCL.out (c:=t) (by rw [Hr.out];omega);rw [HNY.out,←right_end hF0 h1 (Nat.mod_lt _ hF0)];exact h2
def cnv:(Nat→Rat)→(Nat→Rat)→Nat→Rat
 | f,g,0=>f 0*g 0
 | f,g,i+1=>f 0*g (i+1)+cnv (fun k=>f (k+1)) g i
theorem cnv_succ (f g:Nat→Rat) (i:Nat):cnv f g (i+1)=f 0*g (i+1)+cnv (fun k=>f (k+1)) g i:=rfl
theorem cnv_add_l (f g h:Nat→Rat) (i:Nat):cnv (fun k=>f k+g k) h i=cnv f h i+cnv g h i:=by
 induction i generalizing f g with
 | zero=>show (f 0+g 0)*h 0=f 0*h 0+g 0*h 0;grind
 | succ i ih=>rw [cnv_succ,cnv_succ,cnv_succ,ih (fun k=>f (k+1)) (fun k=>g (k+1))];grind
def dco (f:Nat→Rat) (k:Nat):Rat:=f (k+1)*((k+1:Nat):Rat)
theorem cnv_deriv (f g:Nat→Rat) (i:Nat):dco (cnv f g) i=cnv (dco f) g i+cnv f (dco g) i:=by
 induction i generalizing f with
 | zero=>
  show (f 0*g 1+f 1*g 0)*((1:Nat):Rat)=f 1*((1:Nat):Rat)*g 0+f 0*(g 1*((1:Nat):Rat))
  grind
 | succ i ih=>
  have h1:=ih (fun k=>f (k+1))
  have h2:cnv (fun k=>dco f (k+1)) g i=cnv (dco fun k=>f (k+1)) g i+cnv (fun k=>f (k+1+1)) g i:=by
   rw [←cnv_add_l]
   have e:(fun k=>dco f (k+1))=fun k=>dco (fun k=>f (k+1)) k+f (k+1+1):=by
    funext k
    show f (k+1+1)*((k+1+1:Nat):Rat)=f (k+1+1)*((k+1:Nat):Rat)+f (k+1+1)
    rw [show ((k+1+1:Nat):Rat)=((k+1:Nat):Rat)+1 from Rat.natCast_add _ _]
    grind
   rw [e]
  rw [cnv_succ (dco f) g i,cnv_succ f (dco g) i,h2]
  show cnv f g (i+1+1)*((i+1+1:Nat):Rat)=_
  rw [cnv_succ f g (i+1),show ((i+1+1:Nat):Rat)=((i+1:Nat):Rat)+1 from Rat.natCast_add _ _];have h3:dco (cnv (fun k=>f (k+1)) g) i=cnv (fun k=>f (k+1)) g (i+1)*((i+1:Nat):Rat):=rfl;have h4:cnv (fun k=>f (k+1)) g (i+1)=f 1*g (i+1)+cnv (fun k=>f (k+1+1)) g i:=rfl;have h5:dco f 0=f 1:=by show f 1*((1:Nat):Rat)=f 1;grind
  have h6:dco g (i+1)=g (i+1+1)*(((i+1:Nat):Rat)+1):=by
   show g (i+1+1)*((i+1+1:Nat):Rat)=_
   rw [show ((i+1+1:Nat):Rat)=((i+1:Nat):Rat)+1 from Rat.natCast_add _ _]
  rw [h3] at h1
  grind
def co (p:List Rat) (i:Nat):Rat:=p[i]?.getD 0
theorem co_nil (i:Nat):co [] i=0:=rfl
theorem co_succ (a:Rat) (p:List Rat) (i:Nat):co (a :: p) (i+1)=co p i:=rfl
theorem co_ge {p:List Rat} {i:Nat} (h:p.length≤i):co p i=0:=by unfold co;rw [List.getElem?_eq_none h];rfl
def trimF:List Rat→List Rat
 | []=>[]
 | a :: p=>if trimF p=[] then (if a=0 then [] else [a]) else a :: trimF p
theorem trim_zero {p:List Rat} (h:∀i,co p i=0):trimF p=[]:=by
 induction p with
 | nil=>rfl
 | cons a p ih=>
  have h0:a=0:=h 0
  show (if trimF p=[] then (if a=0 then [] else [a]) else a :: trimF p)=[]
  rw [ih (fun i=>h (i+1)),if_pos rfl,if_pos h0]
theorem co_trim (p:List Rat):∀i,co (trimF p) i=co p i:=by
 induction p with
 | nil=>exact fun _=>rfl
 | cons a p ih=>
  intro i
  show co (if trimF p=[] then (if a=0 then [] else [a]) else a :: trimF p) i=_
  by_cases h:trimF p=[]
  ·rw [if_pos h]
   have hz:∀j,co p j=0:=fun j=>by rw [←ih j,h];rfl
   by_cases ha:a=0
   ·rw [if_pos ha,ha]
    cases i with
    | zero=>rfl
    | succ i=>rw [co_succ,hz];rfl
   ·rw [if_neg ha]
    cases i with
    | zero=>rfl
    | succ i=>rw [co_succ,co_succ,hz];rfl
  ·rw [if_neg h]
   cases i with
   | zero=>rfl
   | succ i=>rw [co_succ,co_succ,ih]
theorem trim_co {p q:List Rat} (h:∀i,co p i=co q i):trimF p=trimF q:=by
 induction p generalizing q with
 | nil=>exact(trim_zero fun i=>(h i).symm).symm
 | cons a p ih=>
  cases q with
  | nil=>exact trim_zero h
  | cons b q=>
   have h0:a=b:=h 0;have h1:=ih (q:=q) (fun i=>h (i+1))
   show (if trimF p=[] then (if a=0 then [] else [a]) else a :: trimF p)=(if trimF q=[] then (if b=0 then [] else [b]) else b :: trimF q)
   rw [h0,h1]
theorem trim_trim (p:List Rat):trimF (trimF p)=trimF p:=trim_co (co_trim p)
theorem trim_snoc_zero (p:List Rat):trimF (p ++ [0])=trimF p:=by
 induction p with
 | nil=>simp [trimF]
 | cons a p ih=>show (if trimF (p ++ [0])=[] then (if a=0 then [] else [a]) else a :: trimF (p ++ [0]))=_;rw [ih];rfl
theorem trim_snoc {p:List Rat} {q:Rat} (h:q≠0):trimF (p ++ [q])=p ++ [q]:=by
 induction p with
 | nil=>simp [trimF,h]
 | cons a p ih=>
  show (if trimF (p ++ [q])=[] then (if a=0 then [] else [a]) else a :: trimF (p ++ [q]))=_
  rw [ih,if_neg (by simp)]
  rfl
theorem trim_last {p:List Rat} (h:trimF p≠[]):co p ((trimF p).length - 1)≠0:=by
 induction p with
 | nil=>exact absurd rfl h
 | cons a p ih=>
  have e:trimF (a :: p)=if trimF p=[] then (if a=0 then [] else [a]) else a :: trimF p:=rfl
  by_cases hp:trimF p=[]
  ·rw [e,if_pos hp] at h ⊢
   by_cases ha:a=0
   ·rw [if_pos ha] at h;exact absurd rfl h
   ·rw [if_neg ha];exact ha
  ·rw [e,if_neg hp] at h ⊢
   have h1:=ih hp;obtain⟨n,hn⟩:∃n,(trimF p).length=n+1:=⟨(trimF p).length - 1,by have:=List.length_pos_iff.2 hp;omega⟩;rw [hn] at h1
   show co (a :: p) ((a :: trimF p).length - 1)≠0
   rw [List.length_cons,hn];exact h1
def zipA:List Rat→List Rat→List Rat
 | [],q=>q
 | a :: p,[]=>a :: p
 | a :: p,b :: q=>(a+b) :: zipA p q
theorem co_zip (p q:List Rat):∀i,co (zipA p q) i=co p i+co q i:=by
 induction p generalizing q with
 | nil=>intro i;show co q i=0+co q i;grind
 | cons a p ih=>
  intro i
  cases q with
  | nil=>show co (a :: p) i=co (a :: p) i+0;grind
  | cons b q=>
   cases i with
   | zero=>rfl
   | succ i=>exact ih q i
theorem co_map (x:Rat) (p:List Rat):∀i,co (p.map (·*x)) i=co p i*x:=by
 induction p with
 | nil=>intro i;show (0:Rat)=0*x;grind
 | cons a p ih=>
  intro i
  cases i with
  | zero=>rfl
  | succ i=>exact ih i
def mulR:List Rat→List Rat→List Rat
 | [],_=>[]
 | a :: p,q=>zipA (q.map (·*a)) (0 :: mulR p q)
theorem cnv_zero_l (g:Nat→Rat) (i:Nat):cnv (fun _=>0) g i=0:=by
 induction i with
 | zero=>show 0*g 0=0;grind
 | succ i ih=>rw [cnv_succ];show 0*g (i+1)+cnv (fun _=>0) g i=0;rw [ih];grind
theorem co_mulR (p q:List Rat):∀i,co (mulR p q) i=cnv (co p) (co q) i:=by
 induction p with
 | nil=>intro i;exact(cnv_zero_l _ i).symm
 | cons a p ih=>
  intro i
  show co (zipA (q.map (·*a)) (0 :: mulR p q)) i=_
  rw [co_zip,co_map]
  cases i with
  | zero=>show co q 0*a+0=a*co q 0;grind
  | succ i=>
   show co q (i+1)*a+co (mulR p q) i=a*co q (i+1)+cnv (co p) (co q) i
   rw [ih];grind
def evR (p:List Rat) (x:Rat):Rat:=match p with|[]=>0|a :: p=>evR p x*x+a
theorem ev_zip (p q:List Rat) (x:Rat):evR (zipA p q) x=evR p x+evR q x:=by
 induction p generalizing q with
 | nil=>show evR q x=0+evR q x;grind
 | cons a p ih=>
  cases q with
  | nil=>show evR (a :: p) x=evR (a :: p) x+0;grind
  | cons b q=>show evR (zipA p q) x*x+(a+b)=evR p x*x+a+(evR q x*x+b);rw [ih];grind
theorem ev_map (c:Rat) (p:List Rat) (x:Rat):evR (p.map (·*c)) x=evR p x*c:=by
 induction p with
 | nil=>show (0:Rat)=0*c;grind
 | cons a p ih=>show evR (p.map (·*c)) x*x+a*c=(evR p x*x+a)*c;rw [ih];grind
theorem ev_mul (p q:List Rat) (x:Rat):evR (mulR p q) x=evR p x*evR q x:=by
 induction p with
 | nil=>show (0:Rat)=0*evR q x;grind
 | cons a p ih=>
  show evR (zipA (q.map (·*a)) (0 :: mulR p q)) x=(evR p x*x+a)*evR q x
  rw [ev_zip,ev_map]
  show evR q x*a+(evR (mulR p q) x*x+0)=_
  rw [ih];grind
theorem ev_zero {p:List Rat} (h:∀i,co p i=0) (x:Rat):evR p x=0:=by
 induction p with
 | nil=>rfl
 | cons a p ih=>
  have h0:a=0:=h 0
  show evR p x*x+a=0
  rw [ih (fun i=>h (i+1)),h0];grind
theorem ev_co {p q:List Rat} (h:∀i,co p i=co q i) (x:Rat):evR p x=evR q x:=by
 induction p generalizing q with
 | nil=>exact(ev_zero (fun i=>(h i).symm) x).symm
 | cons a p ih=>
  cases q with
  | nil=>exact ev_zero h x
  | cons b q=>
   have h0:a=b:=h 0
   show evR p x*x+a=evR q x*x+b
   rw [ih (q:=q) (fun i=>h (i+1)),h0]
theorem ev_trim (p:List Rat) (x:Rat):evR (trimF p) x=evR p x:=ev_co (co_trim p) x
def Tri (w:World) (b j:Nat) (q:Rat):Prop:=∃s A k ca B m cb,w.cell? ⟨b,j,none⟩=some (.bool s)∧w.cell? ⟨b,j+1,none⟩=some (.slice A k ca)∧w.cell? ⟨b,j+2,none⟩=some (.slice B m cb)∧Nm w (.agg #[.bool s,.slice A k ca,.slice B m cb]) q
theorem Tri.mono {w w':World} {b j:Nat} {q:Rat} (h:Tri w b j q) (k:Ext w w'):Tri w' b j q:=by
 obtain⟨s,A,m,ca,B,n,cb,h1,h2,h3,h4⟩:=h;exact⟨s,A,m,ca,B,n,cb,ao k h1,ao k h2,ao k h3,h4.mono k⟩
def Pl (w:World) (v:Value) (l:List Rat):Prop:=∃A cap,v=.slice A l.length cap∧l.length≤cap∧((A=none∧l=[])∨∃b o,A=some ⟨b,o,none⟩∧∀i q,l[i]?=some q→Tri w b (o+i*3) q)
theorem Pl.mono {w w':World} {v:Value} {l:List Rat} (h:Pl w v l) (k:Ext w w'):Pl w' v l:=by
 obtain⟨A,cap,h1,h2,h3⟩:=h;refine⟨A,cap,h1,h2,?_⟩
 rcases h3 with h3|⟨b,o,h4,h5⟩
 ·exact .inl h3
 ·exact .inr ⟨b,o,h4,fun i q hq=>(h5 i q hq).mono k⟩
theorem Pl.nil (w:World):Pl w (.slice none 0 0) []:=⟨none,0,rfl,Nat.le_refl _,.inl ⟨rfl,rfl⟩⟩
theorem Pl.take {w:World} {A:Option Addr} {n cap:Nat} {l:List Rat} (h:Pl w (.slice A n cap) l) {k:Nat} (hk:k≤l.length):Pl w (.slice A k cap) (l.take k):=by
 obtain⟨A',cap',e,h2,h3⟩:=h
 injection e with e1 e2 e3
 subst e1 e2 e3;have hl:(l.take k).length=k:=by simp [hk]
 refine⟨A,cap,by rw [hl],by rw [hl];omega,?_⟩
 rcases h3 with ⟨h4,h5⟩|⟨b,o,h4,h5⟩
 ·exact .inl ⟨h4,by rw [h5];simp⟩
 ·refine .inr ⟨b,o,h4,fun i q hq=>h5 i q ?_⟩
  rw [List.getElem?_take] at hq
  split at hq
  ·exact hq
  ·cases hq
def PlO (w:World) (g:Nat) (v:Value) (l:List Rat):Prop:=∃cap cur,v=.slice (some ⟨g,0,none⟩) l.length cap∧w.heap[g]?=some (.cells cur 38 (0,0))∧l.length≤cap∧cap≤maxLen∧cur.size=cap*3∧∀i q,l[i]?=some q→Tri w g (i*3) q
theorem PlO.pl {w:World} {g:Nat} {v:Value} {l:List Rat} (h:PlO w g v l):Pl w v l:=by
 obtain⟨cap,cur,h1,h2,h3,h4,h5,h6⟩:=h;exact⟨_,cap,h1,h3,.inr ⟨g,0,rfl,fun i q hq=>by rw [Nat.zero_add];exact h6 i q hq⟩⟩
def NoU (w:World) (g m:Nat):Prop:=∀(j:Nat) (z:Int),j<m→w.cell? ⟨g,j,none⟩≠some (.int .u64 z)
theorem PlO.noU {w:World} {g:Nat} {v:Value} {l:List Rat} (h:PlO w g v l):NoU w g (l.length*3):=by
 obtain⟨cap,cur,h1,h2,h3,h4,h5,h6⟩:=h;intro j z hj he;have hi:j / 3<l.length:=by omega
 obtain⟨s,A,k,ca,B,m,cb,c0,c1,c2,-⟩:=h6 (j / 3) (l[j / 3]'hi) (List.getElem?_eq_getElem hi)
 rcases(show j=j / 3*3∨j=j / 3*3+1∨j=j / 3*3+2 by omega) with e|e|e
 ·rw [e,c0] at he;cases he
 ·rw [e,c1] at he;cases he
 ·rw [e,c2] at he;cases he
theorem Wd.keepC {W W':World} {v:Value} {n g m:Nat} (h:Wd W v n) (hg:NoU W g m) (hk:∀b j,(b≠g∨m≤j)→W'.cell? ⟨b,j,none⟩=W.cell? ⟨b,j,none⟩):Wd W' v n:=by
 obtain⟨A,cc,e,hc,hcl⟩:=h;refine⟨A,cc,e,hc,?_⟩
 rcases Nat.eq_zero_or_pos (dg n).length with h0|h0
 ·left;rw [List.length_eq_zero_iff.1 h0];rfl
 ·obtain⟨bl,o,hA,hce⟩:=hcl.at_ (by simpa using h0)
  right
  refine⟨bl,o,hA,fun j hj=>?_⟩;have hj':j<(dg n).length:=by simpa using hj
  have h1:=hce j hj;rw [hk bl (o+j) ?_]
  ·exact h1
  ·rcases Classical.em (bl≠g∨m≤o+j) with hn|hn
   ·exact hn
   ·exfalso
    have hb:bl=g:=Classical.byContradiction fun e=>hn (.inl e);have hm:o+j<m:=Nat.lt_of_not_le fun e=>hn (.inr e);rw [getD_map_u64 _ _ hj'] at h1;subst hb;exact hg _ _ hm h1
theorem Nm.keepC {W W':World} {v:Value} {q:Rat} {g m:Nat} (h:Nm W v q) (hg:NoU W g m) (hk:∀b j,(b≠g∨m≤j)→W'.cell? ⟨b,j,none⟩=W.cell? ⟨b,j,none⟩):Nm W' v q:=by
 obtain⟨vn,vd,e,h1,h2⟩:=h;exact⟨vn,vd,e,h1.keepC hg hk,h2.keepC hg hk⟩
def PlN (B:Nat) (w:World) (v:Value) (l:List Rat):Prop:=(v=.slice none 0 0∧l=[])∨∃g,B≤g∧PlO w g v l
theorem PlN.pl {B:Nat} {w:World} {v:Value} {l:List Rat} (h:PlN B w v l):Pl w v l:=by
 rcases h with ⟨rfl,rfl⟩|⟨g,-,h⟩
 ·exact Pl.nil w
 ·exact h.pl
theorem info_num:(Tryz.prog.info? 38).map (fun i=>(i.zero,i.size,i.bytes))=some (some (.agg #[.bool false,.slice none 0 0,.slice none 0 0]),3,56):=by kernel_rfl
def cellsL (w:World) (b o n:Nat):List Value:=(List.range n).map fun j=>(w.cell? ⟨b,o+j,none⟩).getD undef
theorem cellsL_get {w:World} {b o n j:Nat} (hj:j<n):(cellsL w b o n)[j]?=some ((w.cell? ⟨b,o+j,none⟩).getD undef):=by
 unfold cellsL;rw [List.getElem?_map,List.getElem?_range hj]
 rfl
theorem cellsL_lt {w:World} {b o n j:Nat} {u:Value} (h:(cellsL w b o n)[j]?=some u):j<n:=by
 have h1:=(List.getElem?_eq_some_iff.1 h).1
 simpa [cellsL] using h1
theorem owns_plo {w:World} {B:Nat} {v:Value} {l:List Rat} {xs:List Value} (h:w.ownsRow B 38 3 v l.length xs) (hne:v≠.slice none 0 0) (hx:∀i q,l[i]?=some q→∃s A k ca C m cb,xs[i*3]?=some (.bool s)∧xs[i*3+1]?=some (.slice A k ca)∧xs[i*3+2]?=some (.slice C m cb)∧Nm w (.agg #[.bool s,.slice A k ca,.slice C m cb]) q):∃g,B≤g∧PlO w g v l:=by
 obtain⟨hlen,h2⟩:=h
 rcases h2 with ⟨h3,-⟩|⟨g,cap,cur,hv,hb,hg,hc,hm,hs,ht⟩
 ·exact absurd h3 hne
 ·refine⟨g,hb,cap,cur,hv,hg,hc,hm,hs,fun i q hq=>?_⟩
  obtain⟨s,A,k,ca,C,m,cb,x0,x1,x2,hn⟩:=hx i q hq
  have key:∀(j:Nat) (u:Value),xs[j]?=some u→w.cell? ⟨g,j,none⟩=some u:=fun j u hu=>by
   rw [cell_of_row w g j _ _ _ hg];rw [←ht,List.getElem?_take] at hu
   split at hu
   ·simpa using hu
   ·cases hu
  exact⟨s,A,k,ca,C,m,cb,key _ _ x0,key _ _ x1,key _ _ x2,hn⟩
theorem tri_cell {w:World} {b o n:Nat} {l:List Rat} (hn:l.length=n) (ht:∀i q,l[i]?=some q→Tri w b (o+i*3) q) {j:Nat} (hj:j<n*3):∃u,w.cell? ⟨b,o+j,none⟩=some u∧u.oneCell'=true:=by
 have hi:j / 3<l.length:=by omega
 obtain⟨s,A,k,ca,B,m,cb,c0,c1,c2,-⟩:=ht (j / 3) (l[j / 3]'hi) (List.getElem?_eq_getElem hi)
 rcases(show o+j=o+j / 3*3∨o+j=o+j / 3*3+1∨o+j=o+j / 3*3+2 by omega) with e|e|e
 ·exact⟨_,by rw [e];exact c0,rfl⟩
 ·exact⟨_,by rw [e];exact c1,rfl⟩
 ·exact⟨_,by rw [e];exact c2,rfl⟩
theorem clone_q (v:Value) (l:List Rat) (hl:l.length≤1000000) (w:World) (h:Pl w v l):Calls Tryz.prog 67 #[v] w fun e w'=>∃v',e=.returned v'∧PlN w.heap.size w' v' l∧Ext w w':=by
 obtain⟨A,cap,rfl,hc,hA⟩:=h
 rcases hA with ⟨rfl,rfl⟩|⟨b,o,rfl,ht⟩
 ·refine(Tryz.slices_Clone_nil _ _ w).mono ?_
  rintro e w' ⟨rfl,rfl⟩;exact⟨_,rfl,.inl ⟨rfl,rfl⟩,ae _⟩
 ·obtain⟨i0,hi,hz0,hz1,hz2⟩:=info_parts info_num
  refine(Tryz.slices_Clone i0 _ 3 56 hi hz0 hz1 hz2 rfl (by decide) Tryz.sizeOf38 b o l.length cap (cellsL w b o (l.length*3)) w (by simp [cellsL]) (by unfold maxLen;omega) (by omega) (fun j u hu=>?_) (fun u hu=>?_)).mono ?_
  ·have hj:=cellsL_lt hu
   obtain⟨u',h1,-⟩:=tri_cell rfl ht hj;rw [cellsL_get hj,h1] at hu;rw [h1,←Option.some.inj hu];rfl
  ·obtain⟨j,hj⟩:=List.mem_iff_getElem?.1 hu
   have hj':=cellsL_lt hj;obtain⟨u',h1,h2⟩:=tri_cell rfl ht hj';rw [cellsL_get hj',h1] at hj;rw [←Option.some.inj hj];exact h2
  ·rintro e w' ⟨v',rfl,ho,hne,hb⟩
   refine⟨_,rfl,.inr (owns_plo ho hne fun i q hq=>?_),hb⟩;obtain⟨s,A,k,ca,C,m,cb,c0,c1,c2,hn⟩:=ht i q hq;have hi':i<l.length:=(List.getElem?_eq_some_iff.1 hq).1
   have g:∀(r:Nat) (u:Value),r<3→w.cell? ⟨b,o+i*3+r,none⟩=some u→(cellsL w b o (l.length*3))[i*3+r]?=some u:=fun r u hr hu=>by
    rw [cellsL_get (by omega),←Nat.add_assoc,hu];rfl
   exact⟨s,A,k,ca,C,m,cb,g 0 _ (by decide) c0,g 1 _ (by decide) c1,g 2 _ (by decide) c2,hn.mono hb⟩
theorem num_zero_iff {q:Rat} {c:Int} (h:q.num.sign=c):c=0↔q=0:=by
 rw [←h,Int.sign_eq_zero_iff_zero];exact Rat.num_eq_zero
theorem trim_take_zero {l:List Rat} {k:Nat} (hq:l[k]?=some 0):trimF (l.take (k+1))=trimF (l.take k):=by
 rw [List.take_add_one,hq];exact trim_snoc_zero _
theorem trim_take_ne {l:List Rat} {k:Nat} {q:Rat} (hq:l[k]?=some q) (h:q≠0):trimF (l.take (k+1))=l.take (k+1):=by
 rw [List.take_add_one,hq];exact trim_snoc h
theorem trim_le (p:List Rat):(trimF p).length≤p.length:=by
 induction p with
 | nil=>exact Nat.le_refl _
 | cons a p ih=>
  show (if trimF p=[] then (if a=0 then [] else [a]) else a :: trimF p).length≤_
  split
  ·split <;> simp
  ·simpa using ih
theorem trim_q (v:Value) (l:List Rat) (hl:l.length≤1000000) (w:World) (h:Pl w v l):Calls Tryz.prog 23 #[v] w fun e w'=>∃v',e=.returned v'∧PlN w.heap.size w' v' (trimF l)∧Ext w w':=by
 obtain⟨A,cap,rfl,hc,hA⟩:=id h;have HP:=ZZ h;have HL:=ZZ hl;have HC:=ZZ hc;have HA:=ZZ hA;clear h hl hA hc
 go_enter Tryz.func23,Tryz.ntmps23
 go_wp2_with fail
 go_loopg [0] l.length (fun k p wr=>Hid (k≤l.length)∧p=.slice A k cap∧Hid (trimF (l.take k)=trimF l)∧Hid (Ext w wr))
 case atStart=>exact⟨ZZ (Nat.le_refl _),rfl,ZZ (by rw [List.take_length]),ZZ (ae _)⟩
 case round=>
  obtain⟨HK,rfl,HT,HE⟩:=hrel;rename World=>WR
  rcases Nat.eq_zero_or_pos gk with hz|hz
  ·subst hz
   have q1:decide ((0:Int)<((0:Nat):Int))=false:=rfl;go_wp2_with fail;refine(clone_q _ (l.take 0) (by simp) _ ((HP.out.mono HE.out).take (Nat.zero_le _))).mono ?_;rintro e w' ⟨v',rfl,hn,kk⟩;have e0:l.take 0=trimF l:=by rw [←HT.out];rfl
   rw [e0] at hn;have HN:=ZZ hn;have HK2:=ZZ kk;clear hn kk e0;go_wp2_with fail;go_ret;refine⟨_,rfl,?_,al HE.out HK2.out⟩
   rcases HN.out with hn|⟨g,hg,hn⟩
   ·exact .inl hn
   ·exact .inr ⟨g,Nat.le_trans HE.out.size hg,hn⟩
  ·obtain⟨k,rfl⟩:∃k,gk=k+1:=⟨gk - 1,by omega⟩
   clear hz;have hk:=HK.out
   rcases HA.out with ⟨-,h5⟩|⟨b,o,rfl,ht⟩
   ·rw [h5] at hk;simp at hk
   obtain⟨q,hq⟩:∃q,l[k]?=some q:=⟨l[k]'(by omega),List.getElem?_eq_getElem _⟩;obtain⟨s,A1,k1,ca1,B1,l1,cb1,c0,c1,c2,hn⟩:=(ht k q hq).mono HE.out;obtain⟨c,hcs⟩:∃c,q.num.sign=c:=⟨_,rfl⟩;have HCS:=ZZ hcs;have HQ:=ZZ hq;have HN:=ZZ hn;have HT1:=ZZ ht;have q1:decide ((0:Int)<((k+1:Nat):Int))=true:=decide_eq_true (by omega);have q2:decide ((0:Int)<(k:Int)+1)=true:=decide_eq_true (by omega)
   have q3:IntKind.i64.wrap ((k:Int)+1 - 1)=(k:Int):=by
    have:=HL.out
    rw [show (k:Int)+1 - 1=k by omega];exact IntWalk.i64_in _ (by omega)
   have q3':IntKind.i64.wrap (k:Int)=(k:Int):=by
    have:=HL.out
    exact IntWalk.i64_in _ (by omega)
   have q4:(k:Int)<(k:Int)+1:=by omega
   have q5:(0:Int)≤(k:Int):=by omega
   have q6:(k:Int)≤(cap:Int):=by have:=HC.out;omega
   clear hcs hq hn ht hk;go_wp2_with fail;refine(sign_q' _ q _ c HCS.out HN.out).mono ?_;rintro e w5 ⟨rfl,k5⟩;have K5:=ZZ (al HE.out k5);clear c0 c1 c2 k5
   by_cases hc0:c=0
   ·subst hc0
    have z0:((0:Int) == 0)=true:=rfl;have HZ:=ZZ ((num_zero_iff HCS.out).1 rfl);go_wp2_with fail
    go_roundg k
    case measure=>omega
    case rel=>exact⟨ZZ (by have:=HK.out;omega),rfl,ZZ (by have h1:=HQ.out;rw [HZ.out] at h1;rw [←trim_take_zero h1];exact HT.out),ZZ K5.out⟩
   ·have z0:(c == 0)=false:=beq_eq_false_iff_ne.2 hc0
    have HZ:=ZZ (fun e:q=0=>hc0 ((num_zero_iff HCS.out).2 e));clear hc0;go_wp2_with fail;refine(clone_q _ (l.take (k+1)) (by have:=HL.out;simp;omega) _ ((HP.out.mono K5.out).take HK.out)).mono ?_;rintro e w' ⟨v',rfl,hn,kk⟩;rw [show l.take (k+1)=trimF l by rw [←HT.out];exact(trim_take_ne HQ.out HZ.out).symm] at hn;have HN2:=ZZ hn;have HK2:=ZZ kk;clear hn kk;go_wp2_with fail;go_ret;refine⟨_,rfl,?_,al K5.out HK2.out⟩
    rcases HN2.out with hn|⟨g,hg,hn⟩
    ·exact .inl hn
    ·exact .inr ⟨g,Nat.le_trans K5.out.size hg,hn⟩
theorem deg_q (v:Value) (l:List Rat) (hl:l.length≤1000000) (w:World) (h:Pl w v l):Calls Tryz.prog 12 #[v] w fun e w'=>e=.returned (.int .i64 (((trimF l).length:Int) - 1))∧Ext w w':=by
 have HP:=ZZ h;have HL:=ZZ hl;obtain⟨n,hn⟩:∃n,(trimF l).length=n:=⟨_,rfl⟩;rw [hn];have HN:=ZZ hn;have HT:=ZZ (show n≤l.length by rw [←hn];exact trim_le l);clear h hl hn
 go_enter Tryz.func12,Tryz.ntmps12
 go_wp2_with fail;refine(trim_q _ l HL.out _ HP.out).mono ?_
 rintro e w3 ⟨v3,rfl,h3,k3⟩;obtain⟨A,cap,e3,hc,-⟩:=h3.pl;rw [HN.out] at e3;subst e3;have K3:=ZZ k3
 have q3:IntKind.i64.wrap ((n:Int) - 1)=(n:Int) - 1:=by
  have:=HL.out
  have:=HT.out
  exact IntWalk.i64_in _ (by omega)
 clear h3 k3 hc;go_wp2_with fail;go_ret;exact⟨rfl,K3.out⟩
theorem top_q (v:Value) (l:List Rat) (hl:l.length≤1000000) (n:Nat) (q:Rat) (hn:l.length=n+1) (hq:l[n]?=some q) (w:World) (h:Pl w v l):Calls Tryz.prog 76 #[v] w fun e w'=>∃v',e=.returned v'∧Nm w' v' q∧Ext w w':=by
 obtain⟨A,cap,rfl,hc,hA⟩:=h
 rcases hA with ⟨-,h5⟩|⟨b,o,rfl,ht⟩
 ·rw [h5] at hn;simp at hn
 rw [hn];obtain⟨s,A1,k1,ca1,B1,l1,cb1,d0,d1,d2,hx⟩:=ht n q hq;have HX:=ZZ hx;have e1:=ab w (.cells #[.bool false,.slice none 0 0,.slice none 0 0] 38);have c0:=ao e1 d0;have c1:=ao e1 d1;have c2:=ao e1 d2
 have q3:IntKind.i64.wrap ((n:Int)+1 - 1)=(n:Int):=by
  rw [show (n:Int)+1 - 1=n by omega];exact IntWalk.i64_in _ (by omega)
 have q3':IntKind.i64.wrap (n:Int)=(n:Int):=IntWalk.i64_in _ (by omega);have q4:(n:Int)<(n:Int)+1:=by omega
 have q5:(0:Int)≤(n:Int):=by omega
 clear hl hn hq hc ht hx d0 d1 d2 e1
 go_enter Tryz.func76,Tryz.ntmps76
 go_wp2_with fail;refine bodyPost_ret (v:=.agg #[.bool s,.slice A1 k1 ca1,.slice B1 l1 cb1]) (by simp [results,Tryz.f76];go_simp) rfl ?_
 exact⟨_,rfl,HX.out.mono (ab _ _),ab _ _⟩
theorem over_q (M:Nat) (hM:M≤1099511627776) (vx vy:Value) (x y:Rat) (w:World) (hx:Nm w vx x) (hy:Nm w vy y) (bx:Bq M x) (by_:Bq M y) (h0:y≠0):Calls Tryz.prog 84 #[vx,vy] w fun e w'=>∃v,e=.returned v∧Nm w' v (x / y)∧Ext w w':=by
 obtain⟨s1,A1,k1,ca1,B1,l1,cb1,rfl⟩:=hx.form2;obtain⟨s2,A2,k2,ca2,B2,l2,cb2,rfl⟩:=hy.form2;have HX:=ZZ hx;have HY:=ZZ hy;have BX:=ZZ bx;have BY:=ZZ by_;have H0:=ZZ h0;have HM:=ZZ hM;have e1:=ab w (.cells #[.bool s1,.slice A1 k1 ca1,.slice B1 l1 cb1] 38);have e2:=ab (w.alloc (.cells #[.bool s1,.slice A1 k1 ca1,.slice B1 l1 cb1] 38)) (.cells #[.bool s2,.slice A2 k2 ca2,.slice B2 l2 cb2] 38);have e3:=ab ((w.alloc (.cells #[.bool s1,.slice A1 k1 ca1,.slice B1 l1 cb1] 38)).alloc (.cells #[.bool s2,.slice A2 k2 ca2,.slice B2 l2 cb2] 38)) (.cells #[.bool false,.slice none 0 0,.slice none 0 0] 38);have hz:=heap_alloc_new ((w.alloc (.cells #[.bool s1,.slice A1 k1 ca1,.slice B1 l1 cb1] 38)).alloc (.cells #[.bool s2,.slice A2 k2 ca2,.slice B2 l2 cb2] 38)) (.cells #[.bool false,.slice none 0 0,.slice none 0 0] 38);have hz:=show (((w.alloc (.cells #[.bool s1,.slice A1 k1 ca1,.slice B1 l1 cb1] 38)).alloc (.cells #[.bool s2,.slice A2 k2 ca2,.slice B2 l2 cb2] 38)).alloc (.cells #[.bool false,.slice none 0 0,.slice none 0 0] 38)).heap[w.heap.size+1+1]?=some (.cells #[.bool false,.slice none 0 0,.slice none 0 0] 38 (0,0)) by simpa using hz
 have HZ:=ZZ hz;have EW:=ZZ (al e1 (al e2 e3));have LE:=ZZ (show w.heap.size≤w.heap.size+1+1 from by omega);clear hx hy bx by_ h0 hM e1 e2 e3 hz
 go_enter Tryz.func84,Tryz.ntmps84
 go_wp2_with fail;refine(div_q M HM.out _ _ x y _ (HX.out.mono EW.out) (HY.out.mono EW.out) BX.out BY.out H0.out).mono ?_
 rintro e w4 ⟨v4,rfl,h4,k4⟩;obtain⟨s4,A4,k4',ca4,B4,l4,cb4,rfl⟩:=h4.form2;have E4:=ZZ (al k4 (ab w4 (.cells #[.bool s4,.slice A4 k4' ca4,.slice B4 l4 cb4] 38)));have H4:=ZZ (h4.mono (ab w4 (.cells #[.bool s4,.slice A4 k4' ca4,.slice B4 l4 cb4] 38)));have hz4:=(E4.out.block _ (lt_of_block HZ.out)).trans HZ.out;have HZ4:=ZZ hz4;obtain⟨z0,z1,z2,zf0,zf1,zf2⟩:=aj hz4;clear h4 k4 hz4;go_wp2_with fail;refine bodyPost_ret (v:=.agg #[.bool s4,.slice A4 k4' ca4,.slice B4 l4 cb4]) (by simp [results,Tryz.f84];go_simp) rfl ?_;exact⟨_,rfl,H4.out.put3 HZ4.out,am (al EW.out E4.out) LE.out _ _ _⟩
end Go.Proofs.YtkoaakefgacokaaGreatDoor
