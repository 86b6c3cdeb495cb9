/- What PolyDivisors looks at: powers and products of parts, and how great their numbers are. Powers of polynomials; whether two have no common divisor. What PolyDivisors looks at: products, their greatest common divisor, the quotients by it. -/
import Derived.Test.YtoefieefcndlkaaGreatDoorGYz
import Derived.Test.YtoefieefcndlkaaGreatDoorGYt
set_option linter.unusedVariables false
set_option maxRecDepth 100000
set_option maxHeartbeats 64000000
namespace Go.Proofs.YtoefieefcndlkaaGreatDoor
set_option linter.unusedSimpArgs false
def pwrF (P:List Rat):Nat→List Rat
 | 0=>[1]
 | k+1=>mulF (pwrF P k) P
theorem rpow_add (a:Rat) (m:Nat):∀n:Nat,a ^ (m+n)=a ^ m*a ^ n
 | 0=>by rw [Rat.pow_zero];show a ^ m=_;grind
 | n+1=>by rw [←Nat.add_assoc,Rat.pow_succ,Rat.pow_succ,rpow_add a m n];grind
theorem ev_pwrF (P:List Rat) (x:Rat):∀k,evR (pwrF P k) x=evR P x ^ k
 | 0=>by rw [Rat.pow_zero];exact ev_one x
 | k+1=>by
  show evR (mulF (pwrF P k) P) x=_
  rw [ev_mulF,ev_pwrF P x k,Rat.pow_succ]
theorem pwrF_mo {P:List Rat} (h:Mo P) (h0:0<dgF P):∀k,Mo (pwrF P k)∧0<dgF (pwrF P k)
 | 0=>⟨mo_one,show 0<dgF [1] by decide⟩
 | k+1=>by
  obtain⟨h1,h2⟩:=pwrF_mo h h0 k;refine⟨h1.mul h h2 h0,?_⟩
  have:=dg_mul (r:=mulF (pwrF P k) P) (fun x=>ev_mulF _ _ x) h2 h0
  show 0<dgF (mulF (pwrF P k) P)
  omega
def prodL:Nat→List (List Rat)→List Rat
 | _,[]=>[1]
 | k,P :: l=>mulF (pwrF P (k+1)) (prodL (k+1) l)
theorem ev_prodL (x:Rat):∀(l:List (List Rat)) (k:Nat),evR (prodL k l) x=prodE k l x
 | [],k=>ev_one x
 | P :: l,k=>by
  show evR (mulF (pwrF P (k+1)) (prodL (k+1) l)) x=evR P x ^ (k+1)*prodE (k+1) l x
  rw [ev_mulF,ev_pwrF,ev_prodL x l (k+1)]
theorem prodL_mo:∀(l:List (List Rat)) (k:Nat),(∀P ∈ l,Mo P∧0<dgF P)→Mo (prodL k l)∧0<dgF (prodL k l)
 | [],k,_=>⟨mo_one,show 0<dgF [1] by decide⟩
 | P :: l,k,h=>by
  obtain⟨h1,h2⟩:=pwrF_mo (h P (List.mem_cons_self ..)).1 (h P (List.mem_cons_self ..)).2 (k+1);obtain⟨h3,h4⟩:=prodL_mo l (k+1) fun Q hQ=>h Q (List.mem_cons_of_mem _ hQ);refine⟨h1.mul h3 h2 h4,?_⟩
  have:=dg_mul (r:=mulF (pwrF P (k+1)) (prodL (k+1) l)) (fun x=>ev_mulF _ _ x) h2 h4
  show 0<dgF (mulF (pwrF P (k+1)) (prodL (k+1) l))
  omega
theorem prodE_cons (k:Nat) (P:List Rat) (l:List (List Rat)) (x:Rat):prodE k (P :: l) x=evR P x ^ (k+1)*prodE (k+1) l x:=rfl
theorem prodE_append (x:Rat):∀(l1 l2:List (List Rat)) (k:Nat),prodE k (l1 ++ l2) x=prodE k l1 x*prodE (k+l1.length) l2 x
 | [],l2,k=>by show prodE k l2 x=1*prodE k l2 x;grind
 | P :: l,l2,k=>by
  show evR P x ^ (k+1)*prodE (k+1) (l ++ l2) x=evR P x ^ (k+1)*prodE (k+1) l x*prodE (k+(l.length+1)) l2 x
  rw [prodE_append x l l2 (k+1),show k+1+l.length=k+(l.length+1) by omega];grind
def allU:List Rat→Nat→List (List Rat)→List Rat
 | acc,_,[]=>acc
 | acc,k,P :: l=>allU (mulF acc (pwrF P (k+1))) (k+1) l
theorem allU_snoc (P:List Rat):∀(l:List (List Rat)) (acc:List Rat) (k:Nat),allU acc k (l ++ [P])=mulF (allU acc k l) (pwrF P (k+l.length+1))
 | [],acc,k=>rfl
 | Q :: l,acc,k=>by
  show allU (mulF acc (pwrF Q (k+1))) (k+1) (l ++ [P])=mulF (allU (mulF acc (pwrF Q (k+1))) (k+1) l) (pwrF P (k+(l.length+1)+1))
  rw [allU_snoc P l _ (k+1),show k+1+l.length+1=k+(l.length+1)+1 by omega]
theorem ev_allU (x:Rat):∀(l:List (List Rat)) (acc:List Rat) (k:Nat),evR (allU acc k l) x=evR acc x*prodE k l x
 | [],acc,k=>by show evR acc x=evR acc x*1;grind
 | P :: l,acc,k=>by
  show evR (allU (mulF acc (pwrF P (k+1))) (k+1) l) x=evR acc x*(evR P x ^ (k+1)*prodE (k+1) l x)
  rw [ev_allU x l _ (k+1),ev_mulF,ev_pwrF];grind
def allI (t:Rat) (ls:List (List Rat)) (i:Nat):List Rat:=allU [t] 0 (ls.take i)
theorem allI_succ {t:Rat} {ls:List (List Rat)} {i:Nat} {P:List Rat} (h:ls[i]?=some P):allI t ls (i+1)=mulF (allI t ls i) (pwrF P (i+1)):=by
 unfold allI;have hi:i<ls.length:=(List.getElem?_eq_some_iff.1 h).1;rw [List.take_add_one,h]
 show allU [t] 0 (ls.take i ++ [P])=_
 rw [allU_snoc,List.length_take,Nat.min_eq_left (by omega),Nat.zero_add]
theorem trim_one {t:Rat} (h:t≠0):trimF [t]=[t]:=trim_snoc (p:=[]) h
theorem allU_trim:∀(l:List (List Rat)) (acc:List Rat) (k:Nat),trimF acc=acc→trimF (allU acc k l)=allU acc k l
 | [],acc,k,h=>h
 | P :: l,acc,k,h=>allU_trim l (mulF acc (pwrF P (k+1))) (k+1) (trim_trim _)
theorem parts_facts {a:List Rat} (ht:trimF a=a) (h0:0<dgF a) (hL:dgF a≤27) (hf:HF 112035 a):(∀(i:Nat) (P:List Rat),(partsF a)[i]?=some P→Mo P∧0<dgF P∧P.length≤27∧HF 224691 P∧Cop P (derivF P)∧(∀k,k≤i+1→HF 224691 (pwrF P k)∧(pwrF P k).length≤27)∧∀k Q,k<i→(partsF a)[k]?=some Q→Cop P Q)∧(∀i,i≤(partsF a).length→HF 336726 (allI (topF a) (partsF a) i)∧(allI (topF a) (partsF a) i).length≤27)∧allI (topF a) (partsF a) (partsF a).length=a∧(partsF a).length≤30:=by
 obtain⟨-,y2,y3,y4⟩:=yun h0;have hm:=hf.monic;have mm:=mo_mon a;have m0:0<dgF (monicF a):=by rw [dg_mon];exact h0
 have mL:dgF (monicF a)≤27:=by rw [dg_mon];exact hL
 have hB:bdF 112035 27=224691:=rfl
 have fac:∀f:List Rat,Mo f→Dv f (monicF a)→HF 224691 f∧f.length≤27:=fun f h1 h2=>by
  have h3:=factor_dv hm mm h1 h2 m0 mL (by decide);rw [hB] at h3;have h4:=(h2.dg m0).2;rw [h1.len] at h4;exact⟨h3,by omega⟩
 have htop:topF (trimF a)≠0:=top_trim_ne (trim_ne h0);rw [ht] at htop;have ea:∀x,evR a x=evR (monicF a) x*topF a:=fun x=>by rw [mon_back h0,ht]
 have hbt:Bq 112035 (topF a):=by
  have h1:dgF a=a.length:=by unfold dgF;rw [ht]
  refine hf.bq _ ?_;unfold topF co;rw [List.getElem?_eq_getElem (by omega)];exact List.getElem_mem _
 have hla:(partsF a).length≤30:=by
  have h1:(partsF a).length≤(monicF a).length+1:=by unfold partsF;exact partsU_len _ _ _
  have h2:=mm.len;omega
 generalize partsF a=ls at *;refine⟨fun i P hP=>?_,fun i hi=>?_,?_,hla⟩
 ·have hmem:=List.mem_of_getElem? hP
  obtain⟨p1,p2,p3,p4⟩:=y2 P hmem;have hi:i<(ls).length:=(List.getElem?_eq_some_iff.1 hP).1
  have hsplit:ls=(ls).take i ++ P :: (ls).drop (i+1):=by
   have h1:=List.take_append_drop i (ls);rw [List.drop_eq_getElem_cons hi] at h1;rw [(List.getElem?_eq_some_iff.1 hP).2] at h1;exact h1.symm
  have hlen:((ls).take i).length=i:=by rw [List.length_take];omega
  have hdv:∀k,k≤i+1→Dv (pwrF P k) (monicF a):=fun k hk=>by
   refine⟨mulF (prodL 0 ((ls).take i)) (mulF (pwrF P (i+1 - k)) (prodL (i+1) ((ls).drop (i+1)))),fun x=>?_⟩;have h1:=y4 x;rw [hsplit,prodE_append,hlen,Nat.zero_add] at h1;rw [←h1,ev_mulF,ev_mulF,ev_pwrF,ev_pwrF,ev_prodL,ev_prodL];rw [prodE_cons]
   have h2:evR P x ^ (i+1)=evR P x ^ k*evR P x ^ (i+1 - k):=by
    rw [←rpow_add];congr 1;omega
   rw [h2];grind
  have hP1:=fac P p1 (by have:=hdv 1 (by omega);exact this.evl fun x=>by rw [ev_pwrF,Rat.pow_succ,Rat.pow_zero];grind);refine⟨p1,p2,hP1.2,hP1.1,p3,fun k hk=>fac _ (pwrF_mo p1 p2 k).1 (hdv k hk),fun k Q hk hQ=>?_⟩;have h3:=List.pairwise_iff_getElem.1 y3 k i (by omega) hi hk;rw [(List.getElem?_eq_some_iff.1 hQ).2,(List.getElem?_eq_some_iff.1 hP).2] at h3;exact h3.symm
 ·have hmo:∀P ∈ (ls).take i,Mo P∧0<dgF P:=fun P hP=>by
   obtain⟨p1,p2,-⟩:=y2 P (List.mem_of_mem_take hP);exact⟨p1,p2⟩
  obtain⟨q1,q2⟩:=prodL_mo ((ls).take i) 0 hmo
  have hdv:Dv (prodL 0 ((ls).take i)) (monicF a):=by
   refine⟨prodL i ((ls).drop i),fun x=>?_⟩;have h1:=y4 x;rw [←List.take_append_drop i (ls),prodE_append,List.length_take,Nat.min_eq_left hi,Nat.zero_add] at h1;rw [←h1,ev_prodL,ev_prodL]
  obtain⟨f1,f2⟩:=fac _ q1 hdv
  have e:∀x,evR (allI (topF a) (ls) i) x=evR (scaleF (prodL 0 ((ls).take i)) (topF a)) x:=fun x=>by
   unfold allI;rw [ev_allU,ev_scaleF,ev_prodL,ev_const];grind
  have hs:=(f1.scale hbt).eqv (ev_inj e);refine⟨hs.mono (by decide),?_⟩;have htr:trimF (allI (topF a) (ls) i)=allI (topF a) (ls) i:=allU_trim _ _ _ (trim_one htop);have h5:dgF (allI (topF a) (ls) i)≤dgF (prodL 0 ((ls).take i)):=dg_scale (c:=topF a) fun x=>by rw [e,ev_scaleF]
  have h6:dgF (allI (topF a) (ls) i)=(allI (topF a) (ls) i).length:=by unfold dgF;rw [htr]
  rw [q1.len] at h5;omega
 ·have htr:trimF (allI (topF a) (ls) (ls).length)=allI (topF a) (ls) (ls).length:=allU_trim _ _ _ (trim_one htop)
  have h1:=trim_ev (p:=allI (topF a) (ls) (ls).length) (q:=a) fun x=>by
   unfold allI;rw [ev_allU,List.take_length,y4,ea,ev_const];grind
  rwa [htr,ht] at h1
end Go.Proofs.YtoefieefcndlkaaGreatDoor
set_option linter.unusedVariables false
set_option maxRecDepth 100000
set_option maxHeartbeats 64000000
namespace Go.Proofs.YtoefieefcndlkaaGreatDoor
open Go Go.RowKit
set_option linter.unusedSimpArgs false
theorem power_p' (M:Nat) (hM0:0<M) (hM:M≤1000000000) (v:Value) (P:List Rat) (n:Nat) (hn:n≤100) (hl:P.length≤100) (w:World) (hp:Pl w v P) (hb:∀x ∈ P,Bq M x) (hk:∀k,k≤n→(∀x ∈ pwrF P k,Bq M x)∧(pwrF P k).length≤100):Calls Tryz.prog 19 #[v,.int .i64 (n:Int)] w fun e w'=>∃v',e=.returned v'∧Pl w' v' (pwrF P n)∧Ext w w':=by
 have HP:=ZZ hp;have HB:=ZZ hb;have HK:=ZZ hk;have HL:=ZZ hl;have HN:=ZZ hn;have HM:=ZZ hM;have HM0:=ZZ hM0;clear hp hb hk hl hn hM hM0;have I:=ZZ (show Il (w.alloc (.cells #[.int .i64 1] 2)) (.slice (some ⟨w.heap.size,0,none⟩) 1 1) [1] from il_new w [1] _);have XE:=ZZ (ab w (.cells #[.int .i64 1] 2))
 go_enter Tryz.func19,Tryz.ntmps19
 go_wp2_with fail;refine(ints_p _ [1] (by decide) (by decide) _ I.out).mono ?_
 rintro e w1 ⟨v1,rfl,h1,k1⟩;have K1:=ZZ (ak XE.out k1)
 have H1:=ZZ (show Pl w1 v1 (pwrF P 0) from by
  have e:intsF [1]=pwrF P 0:=rfl;rw [←e];exact h1)
 clear h1 k1 I XE;go_wp2_with fail
 go_loopg [6,5] n (fun k i u wr=>∃j,Hid (j+k=n)∧i=.int .i64 (j:Int)∧Hid (Pl wr u (pwrF P j))∧Hid (Ext w wr))
 case atStart=>exact⟨0,ZZ (Nat.zero_add _),rfl,H1,K1⟩
 case round=>
  obtain⟨j,HJ,rfl,HO,HE⟩:=hrel;rename World=>WR;rename Value=>u
  rcases Nat.eq_zero_or_pos gk with hz|hz
  ·subst hz
   obtain rfl:j=n:=HJ.out;have q1:decide ((j:Int)<(j:Int))=false:=decide_eq_false (Int.lt_irrefl _);go_wp2_with fail;go_ret;exact⟨_,rfl,HO.out,HE.out⟩
  ·have hjn:j<n:=by have:=HJ.out;omega
   have q1:decide ((j:Int)<(n:Int))=true:=decide_eq_true (by omega);have q1':decide (j<n)=true:=decide_eq_true hjn;have HZ:=ZZ hz;have HJN:=ZZ hjn;have BJ:=ZZ (HK.out j (by omega));clear hz hjn;go_wp2_with fail
   refine(mul_p M HM0.out _ _ (pwrF P j) P (by have:=BJ.out.2;omega) (by have:=HL.out;omega) (by
    have h1:(pwrF P j).length*(M+M+1)≤100*(M+M+1):=Nat.mul_le_mul_right _ BJ.out.2;have h2:=HM.out
    omega) _ HO.out (HP.out.mono HE.out) BJ.out.1 HB.out).mono ?_
   rintro e w3 ⟨v3,rfl,h3,k3⟩;have H3:=ZZ (show Pl w3 v3 (pwrF P (j+1)) from h3.pl);have K3:=ZZ (ak HE.out k3);clear h3 k3;go_wp2_with fail
   go_roundg (gk - 1)
   case measure=>have:=HZ.out;omega
   case rel=>exact⟨j+1,ZZ (by have:=HJ.out;have:=HZ.out;omega),by have h1:=HN.out;have h2:=HJN.out;rw [IntWalk.wrap64_in _ ⟨by omega,by omega⟩];rfl,H3,K3⟩
theorem free_p (M:Nat) (hM0:0<M) (hM:M≤137438953472) (vp vq:Value) (p q:List Rat) (hlp:p.length≤41) (hlq:q.length≤41) (w:World) (hp:Pl w vp p) (hq:Pl w vq q) (hok:comOk M p q=true) (hc:Cop p q):Calls Tryz.prog 17 #[vp,vq] w fun e w'=>e=.returned (.bool true)∧Ext w w':=by
 have small:∀l:List Rat,l.length≤41→bigF l=false:=fun l hl=>decide_eq_false (by have:=trim_le l;omega);have HG:=ZZ (show gcdE p q=([1],0) from by unfold gcdE;rw [small p hlp,small q hlq,hc.gcd];rfl);have HP:=ZZ hp;have HQ:=ZZ hq;have HLP:=ZZ hlp;have HLQ:=ZZ hlq;have HOK:=ZZ hok;have HM:=ZZ hM;have HM0:=ZZ hM0;clear hp hq hlp hlq hok hM hM0 hc small
 go_enter Tryz.func17,Tryz.ntmps17
 go_wp2_with fail;refine(gcd_p M HM0.out HM.out _ _ p q (by have:=HLP.out;omega) (by have:=HLQ.out;omega) _ HP.out HQ.out (fun _=>HOK.out) ([1],0) HG.out).mono ?_
 rintro e w3 ⟨v3,rfl,h3,k3⟩;have H3:=ZZ (show Pl w3 v3 [1] from h3);have K3:=ZZ k3;clear h3 k3;have z0:((0:Int) == 0)=true:=rfl;go_wp2_with fail;refine(deg_q _ [1] (by decide) _ H3.out).mono ?_;rintro e w4 ⟨rfl,k4⟩;have K4:=ZZ (ak K3.out k4);clear k4;rw [show ((trimF [1]).length:Int) - 1=0 from by decide];have q1:decide ((0:Int)≤0)=true:=rfl;go_wp2_with fail;go_ret;exact⟨rfl,K4.out⟩
theorem pln_one {w:World} {s:Bool} {A C:Option Addr} {k ca m cb:Nat} {q:Rat} (h:Nm w (.agg #[.bool s,.slice A k ca,.slice C m cb]) q):Pl (w.alloc (.cells #[.bool s,.slice A k ca,.slice C m cb] 52)) (.slice (some ⟨w.heap.size,0,none⟩) 1 1) [q]:=by
 refine⟨_,1,rfl,Nat.le_refl _,.inr ⟨w.heap.size,0,rfl,fun i r hr=>?_⟩⟩
 cases i with
 | succ i=>cases hr
 | zero=>
  obtain rfl:q=r:=Option.some.inj hr;obtain⟨y0,y1,y2,-⟩:=ai (heap_alloc_new w (.cells #[.bool s,.slice A k ca,.slice C m cb] 52));exact⟨s,A,k,ca,C,m,cb,y0,y1,y2,h.mono (ab _ _)⟩
end Go.Proofs.YtoefieefcndlkaaGreatDoor
set_option linter.unusedVariables false
set_option maxRecDepth 100000
set_option maxHeartbeats 64000000
namespace Go.Proofs.YtoefieefcndlkaaGreatDoor
set_option linter.unusedSimpArgs false
theorem not_big {l:List Rat} (h:l.length≤41):bigF l=false:=decide_eq_false (by have:=trim_le l;omega)
theorem prod_facts {x c:List Rat} (lx:x.length≤14) (lc:c.length≤14) (bx:∀q ∈ x,Bq 4001 q) (bc:∀q ∈ c,Bq 4001 q):trimF (mulF x c)=mulF x c∧(mulF x c).length≤27∧HF 112035 (mulF x c)∧Dv c (mulF x c):=by
 have e:trimF (mulF x c)=mulF x c:=trim_trim _;have h1:=(hf_list bx (Nat.le_trans (dg_len x) lx)).mul (v:=4) (hf_list bc (Nat.le_trans (dg_len c) lc)) (by omega);refine⟨e,?_,h1.mono (by decide),⟨x,fun t=>by rw [ev_mulF];grind⟩⟩;have h2:=dg_mulF_le x c;have h3:=dg_len x;have h4:=dg_len c;have h5:dgF (mulF x c)=(mulF x c).length:=by unfold dgF;rw [e]
 omega
theorem nil_of {a:List Rat} (ht:trimF a=a) (h:dgF a=0):a=[]:=by
 unfold dgF at h;rw [ht] at h;exact List.length_eq_zero_iff.1 h
theorem gcd_facts {M:Nat} (hM:10217226011≤M) {a b:List Rat} (ta:trimF a=a) (tb:trimF b=b) (la:a.length≤27) (lb:b.length≤27) (fa:HF 112035 a) (fb:HF 112035 b):comOk M a b=true∧gcdE a b=(commonF a b,0)∧(commonF a b).length≤27∧(trimF (commonF a b)=commonF a b)∧(dgF (commonF a b)=0→a=[]∧b=[])∧(0<dgF (commonF a b)→HF 224691 (commonF a b)∧divOk M a (commonF a b)=true∧divOk M b (commonF a b)=true∧divE a (commonF a b)=((divF a (commonF a b)).1,[],0)∧divE b (commonF a b)=((divF b (commonF a b)).1,[],0)∧(divF a (commonF a b)).1.length≤27∧(divF b (commonF a b)).1.length≤27∧(∀q ∈ (divF a (commonF a b)).1,Bq 6178719 q)∧comOk M (divF a (commonF a b)).1 (divF b (commonF a b)).1=true∧Cop (divF a (commonF a b)).1 (divF b (commonF a b)).1∧mulF (divF a (commonF a b)).1 (commonF a b)=a):=by
 have da:=dg_len a;have db:=dg_len b;obtain⟨k1,k2⟩:=com_hf (M:=M) (N:=27) (w:=7) (H:=364900928) fa fb (by omega) (by omega) (by decide) (by decide) (by omega);obtain⟨⟨g1,g2,s,t,gst⟩,gm⟩:=gcd_gc a b;have gl:=common_len a b 27 la lb;have out:=gcd_out (p:=a) (q:=b)
 have hge:gcdE a b=(commonF a b,0):=by
  unfold gcdE;rw [not_big (by omega),not_big (by omega)];rfl
 generalize commonF a b=g at *;refine⟨k1,hge,gl,gm.1,fun h=>?_,fun h0=>?_⟩
 ·have za:dgF a=0:=by
   obtain⟨u,hu⟩:=g1;exact dg_of_zero fun x=>by rw [hu,dgz h];grind
  have zb:dgF b=0:=by
   obtain⟨u,hu⟩:=g2;exact dg_of_zero fun x=>by rw [hu,dgz h];grind
  exact⟨nil_of ta za,nil_of tb zb⟩
 ·obtain⟨al,be,hc,ha,hb⟩:=out h0
  have fg:HF 224691 g:=by
   rcases Nat.eq_zero_or_pos (dgF a) with z|z
   ·rcases Nat.eq_zero_or_pos (dgF b) with z2|z2
    ·exfalso
     have:dgF g=0:=dg_of_zero fun x=>by rw [gst,dgz z,dgz z2];grind
     omega
    ·have hx:=factor_dv (L:=27) fb.monic (mo_mon b) gm (g2.trans (mon_dv b).2) (by rw [dg_mon];exact z2) (by rw [dg_mon];omega) (by decide)
     exact hx
   ·have hx:=factor_dv (L:=27) fa.monic (mo_mon a) gm (g1.trans (mon_dv a).2) (by rw [dg_mon];exact z) (by rw [dg_mon];omega) (by decide)
    exact hx
  have da2:=div_hf (M:=6178719) (N:=27) fa fg h0 (by omega) (by decide) (by decide);have db2:=div_hf (M:=6178719) (N:=27) fb fg h0 (by omega) (by decide) (by decide);have da3:=div_hf (M:=M) (N:=27) fa fg h0 (by omega) (by omega) (by omega);have db3:=div_hf (M:=M) (N:=27) fb fg h0 (by omega) (by omega) (by omega);have ea:=div_exact h0 g1;have eb:=div_exact h0 g2;have gne:trimF g≠[]:=trim_ne h0;have m1:=ev_cancel (p:=g) (q:=(divF a g).1) (r:=al) h0 fun x=>by rw [←ha,ea.2 x];grind
  have m2:=ev_cancel (p:=g) (q:=(divF b g).1) (r:=be) h0 fun x=>by rw [←hb,eb.2 x];grind
  have lm:=Nat.le_trans (div_len1 a g gne) la;have ln:=Nat.le_trans (div_len1 b g gne) lb
  have hcop:Cop (divF a g).1 (divF b g).1:=by
   obtain⟨s',t',e⟩:=hc;exact⟨s',t',fun x=>by rw [m1,m2,e]⟩
  have hcom:=com_hf (M:=M) (N:=27) (w:=7) (H:=346008768) da2.2.1 db2.2.1 (Nat.le_trans (dg_len _) lm) (Nat.le_trans (dg_len _) ln) (by decide) (by decide) (by omega);refine⟨fg,da3.1,db3.1,?_,?_,lm,ln,da2.2.1.bq,hcom.1,hcop,?_⟩
  ·unfold divE
   rw [not_big (by omega),not_big (by omega),if_neg (by decide),if_neg gne,ea.1]
  ·unfold divE
   rw [not_big (by omega),not_big (by omega),if_neg (by decide),if_neg gne,eb.1]
  ·have h1:=trim_ev (p:=mulF (divF a g).1 g) (q:=a) fun x=>by rw [ev_mulF,ea.2 x]
   rw [show trimF (mulF (divF a g).1 g)=mulF (divF a g).1 g from trim_trim _,ta] at h1;exact h1
theorem rest_facts {M:Nat} (hM:10217226011≤M) {a b c:List Rat} (lc:c.length≤14) (bc:∀q ∈ c,Bq 4001 q) (dva:Dv c a) (dvb:Dv c b) (gl:(commonF a b).length≤27) (fg:HF 224691 (commonF a b)) (hc:trimF c≠[]):divOk M (commonF a b) c=true∧divE (commonF a b) c=((divF (commonF a b) c).1,[],0):=by
 have hdv:=gcd_great dva dvb;have h0:0<dgF c:=List.length_pos_iff.2 hc;generalize commonF a b=g at *;have dg:=dg_len g;have d:=div_hf (M:=M) (N:=27) fg (hf_list bc (Nat.le_trans (dg_len c) lc)) h0 (by omega) (by omega) (by omega);refine⟨d.1,?_⟩;unfold divE;rw [not_big (by omega),not_big (by omega),if_neg (by decide),if_neg hc,(div_exact h0 hdv).1]
theorem parts_some {M:Nat} (hM:10217226011≤M) {a:List Rat} (ta:trimF a=a) (la:a.length≤27) (fa:HF 112035 a) (h0:0<dgF a):partsOk M a=true∧partsE a=(partsF a,0)∧askF a=0:=by
 have da:=dg_len a;have k:=parts_hf (M:=M) (L:=27) fa h0 (by omega) (by decide) (Nat.le_trans (show bdM 112035 27≤10217226011 by decide) hM)
 have hz:askF a=0:=by
  unfold askF;rw [not_big (by omega),if_neg (by decide),if_neg (trim_ne h0)]
 refine⟨k.1,?_,hz⟩;unfold partsE;rw [if_pos hz]
theorem parts_none {a:List Rat} (la:a.length≤27) (h:trimF a=[]):partsE a=([],8)∧askF a=8:=by
 have hz:askF a=8:=by
  unfold askF;rw [not_big (by omega),if_neg (by decide),if_pos h]
 refine⟨?_,hz⟩;unfold partsE;rw [if_neg (by rw [hz];decide),hz]
theorem free_ok {M:Nat} (hM:10217226011≤M) {p q:List Rat} (lp:p.length≤27) (lq:q.length≤27) (fp:HF 224697 p) (fq:HF 224697 q):comOk M p q=true:=by
 have h1:=dg_len p;have h2:=dg_len q;exact(com_hf (M:=M) (N:=27) (w:=7) (H:=12583536) fp fq (by omega) (by omega) (by decide) (by decide) (by omega)).1
end Go.Proofs.YtoefieefcndlkaaGreatDoor
