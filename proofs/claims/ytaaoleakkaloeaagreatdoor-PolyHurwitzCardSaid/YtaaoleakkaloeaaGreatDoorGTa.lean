/- Differences of polynomials. Plain laws of decimal numerals. Texts: rows of digits. The monic multiple of a polynomial. The polynomial t. Products of polynomials, plain: what out holds after i rounds and j of the next. -/
import Derived.Test.YtaaoleakkaloeaaGreatDoorGRc
import Derived.Test.YtaaoleakkaloeaaGreatDoorGWj
import Derived.Lib.ItoaNum
import Derived.Test.YtaaoleakkaloeaaGreatDoorGShelf
import Derived.Test.YtaaoleakkaloeaaGreatDoorGRat
import Derived.Shelf.Strings.SlTrimAscii
set_option linter.unusedVariables false
set_option maxRecDepth 100000
set_option maxHeartbeats 64000000
namespace Go.Proofs.YtaaoleakkaloeaaGreatDoor
open Go.RowKit
theorem trim_mem {p:List Rat} {x:Rat} (h:x ∈ trimF p):x ∈ p:=by
 induction p with
 | nil=>exact h
 | cons a p ih=>
  have e:trimF (a :: p)=if trimF p=[] then (if a=0 then [] else [a]) else a :: trimF p:=rfl;rw [e] at h
  split at h
  ·split at h
   ·cases h
   ·rw [List.mem_singleton.1 h];exact List.mem_cons_self ..
  ·rcases List.mem_cons.1 h with h|h
   ·rw [h];exact List.mem_cons_self ..
   ·exact List.mem_cons_of_mem _ (ih h)
theorem bq_scale {M K:Nat} {p:List Rat} {x:Rat} (h:∀q ∈ p,Bq M q) (hx:Bq K x):∀q ∈ scaleF p x,Bq (M+K) q:=by
 intro q hq;obtain⟨r,hr,rfl⟩:=List.mem_map.1 (trim_mem hq);exact(h r hr).mul hx
def subF (p q:List Rat):List Rat:=addF p (scaleF q (-1))
theorem sub_p (M:Nat) (hM:M≤1099511627000) (vp vq:Value) (p q:List Rat) (hlp:p.length≤1000000) (hlq:q.length≤1000000) (w:World) (hp:Pl w vp p) (hq:Pl w vq q) (hbp:∀x ∈ p,Bq M x) (hbq:∀x ∈ q,Bq M x):Calls Tryz.prog 78 #[vp,vq] w fun e w'=>∃v',e=.returned v'∧PlN w.heap.size w' v' (subF p q)∧Ext w w':=by
 have HP:=ZZ hp;have HQ:=ZZ hq;have HLP:=ZZ hlp;have HLQ:=ZZ hlq;have HBP:=ZZ hbp;have HBQ:=ZZ hbq;have HM:=ZZ hM;clear hp hq hlp hlq hbp hbq hM
 go_enter Tryz.func78,Tryz.ntmps78
 go_wp2_with fail;refine(int_q (-1) (by decide) (by decide) w).mono ?_
 rintro e w3 ⟨v3,rfl,h3,k3⟩;have H3:=ZZ (show Nm w3 v3 (-1) from h3);have K3:=ZZ k3;clear h3 k3;go_wp2_with fail;have BN:=ZZ (show Bq 64 (-1:Rat) from bq_int (-1) (by decide) (by decide));refine(scale_q (M+64) (by have:=HM.out;omega) _ _ q (-1) HLQ.out _ (HQ.out.mono K3.out) H3.out (fun x hx=>(HBQ.out x hx).mono (by omega)) (BN.out.mono (by omega))).mono ?_;rintro e w5 ⟨v5,rfl,h5,k5⟩;have H5:=ZZ h5.pl;have K5:=ZZ (ak K3.out k5);clear h5 k5;go_wp2_with fail;refine(add_p (M+64) (by have:=HM.out;omega) _ _ p (scaleF q (-1)) HLP.out (Nat.le_trans (trim_le _) (by rw [List.length_map];exact HLQ.out)) _ (HP.out.mono K5.out) H5.out (fun x hx=>(HBP.out x hx).mono (by omega)) (bq_scale HBQ.out BN.out)).mono ?_;rintro e w6 ⟨v6,rfl,h6,k6⟩;have H6:=ZZ h6;have K6:=ZZ k6;clear h6 k6;go_wp2_with fail;go_ret;refine⟨_,rfl,?_,ak K5.out K6.out⟩
 rcases H6.out with hn|⟨g,hg,hn⟩
 ·exact .inl hn
 ·exact .inr ⟨g,Nat.le_trans K5.out.size hg,hn⟩
end Go.Proofs.YtaaoleakkaloeaaGreatDoor
set_option linter.unusedVariables false
set_option maxRecDepth 100000
set_option maxHeartbeats 64000000
namespace Go.Proofs.YtaaoleakkaloeaaGreatDoor
open Go.RowKit Go.Lib
def natOf (l:List UInt8):Nat:=l.foldl (fun n c=>10*n+(c.toNat - 48)) 0
def isDig (c:UInt8):Bool:=decide (48≤c.toNat) && decide (c.toNat≤57)
theorem isDig_iff (c:UInt8):isDig c=true↔48≤c.toNat∧c.toNat≤57:=by
 unfold isDig;simp
theorem natOf_nil:natOf []=0:=rfl
theorem natOf_snoc (l:List UInt8) (c:UInt8):natOf (l ++ [c])=10*natOf l+(c.toNat - 48):=by
 simp [natOf,List.foldl_append]
theorem natOf_acc (l:List UInt8) (a:Nat):l.foldl (fun n c=>10*n+(c.toNat - 48)) a=a*10 ^ l.length+natOf l:=by
 induction l generalizing a with
 | nil=>simp [natOf]
 | cons c l ih=>
  unfold natOf
  simp only [List.foldl_cons,List.length_cons]
  rw [ih,ih (10*0+(c.toNat - 48)),Nat.pow_succ,Nat.mul_zero,Nat.zero_add,Nat.add_mul]
  have:10*a*10 ^ l.length=a*(10 ^ l.length*10):=by rw [Nat.mul_comm 10 a,Nat.mul_assoc,Nat.mul_comm 10]
  omega
theorem natOf_append (l m:List UInt8):natOf (l ++ m)=natOf l*10 ^ m.length+natOf m:=by
 unfold natOf;rw [List.foldl_append];exact natOf_acc m _
theorem natOf_cons (c:UInt8) (l:List UInt8):natOf (c :: l)=(c.toNat - 48)*10 ^ l.length+natOf l:=by
 have:=natOf_append [c] l
 rw [List.singleton_append] at this;rw [this];simp [natOf]
theorem natOf_lt (l:List UInt8) (h:∀c ∈ l,isDig c=true):natOf l<10 ^ l.length:=by
 induction l with
 | nil=>simp [natOf]
 | cons c l ih=>
  rw [natOf_cons,List.length_cons,Nat.pow_succ];have h1:=ih fun d hd=>h d (List.mem_cons_of_mem _ hd);have h2:=(isDig_iff c).1 (h c (List.mem_cons_self ..));have h3:(c.toNat - 48)*10 ^ l.length≤9*10 ^ l.length:=Nat.mul_le_mul_right _ (by omega);omega
theorem dchar (d:Nat) (h:d<10):(UInt8.ofNat (48+d)).toNat=48+d:=by
 rw [UInt8.toNat_ofNat'];exact Nat.mod_eq_of_lt (by omega)
theorem chard (c:UInt8) (h:isDig c=true):UInt8.ofNat (48+(c.toNat - 48))=c:=by
 have h2:=(isDig_iff c).1 h
 apply UInt8.toNat_inj.1
 rw [dchar _ (by omega)];omega
theorem natOf_dec (n:Nat):natOf (decDigits n)=n:=by
 induction n using Nat.strongRecOn with
 | _ n ih=>
  by_cases h:n<10
  ·rw [decDigits,dif_pos h];(simp [natOf];omega)
  ·rw [decDigits,dif_neg h,natOf_snoc,ih _ (by omega),dchar _ (by omega)];omega
theorem dec_ne_nil (n:Nat):decDigits n≠[]:=by
 rw [decDigits];split <;> simp
theorem dec_isDig (n:Nat):∀c ∈ decDigits n,isDig c=true:=by
 induction n using Nat.strongRecOn with
 | _ n ih=>
  intro c hc
  by_cases h:n<10
  ·rw [decDigits,dif_pos h] at hc
   simp only [List.mem_singleton] at hc
   rw [hc,isDig_iff,dchar _ h];omega
  ·rw [decDigits,dif_neg h] at hc
   rcases List.mem_append.1 hc with hc|hc
   ·exact ih _ (by omega) c hc
   ·simp only [List.mem_singleton] at hc
    rw [hc,isDig_iff,dchar _ (by omega)];omega
theorem natOf_pos (l:List UInt8) (h:∀c ∈ l,isDig c=true) (h0:l≠[]) (h1:l.head?≠some 48):0<natOf l:=by
 cases l with
 | nil=>exact absurd rfl h0
 | cons c l=>
  rw [natOf_cons];have h2:=(isDig_iff c).1 (h c (List.mem_cons_self ..))
  have h3:c.toNat≠48:=fun e=>h1 (by
   rw [List.head?_cons];congr 1;apply UInt8.toNat_inj.1;rw [e];rfl)
  have h4:0<10 ^ l.length:=Nat.pow_pos (by decide);have h5:1*10 ^ l.length≤(c.toNat - 48)*10 ^ l.length:=Nat.mul_le_mul_right _ (by omega);omega
theorem dec_natOf (l:List UInt8) (h:∀c ∈ l,isDig c=true) (h0:l≠[]) (h1:l.head?≠some 48∨l.length=1):decDigits (natOf l)=l:=by
 obtain⟨k,hk⟩:∃k,l.length=k:=⟨_,rfl⟩
 induction k using Nat.strongRecOn generalizing l with
 | _ k ih=>
  have hs:=List.dropLast_concat_getLast h0;obtain⟨m,hm⟩:∃m,l.dropLast=m:=⟨_,rfl⟩;obtain⟨c,hc⟩:∃c,l.getLast h0=c:=⟨_,rfl⟩;rw [hm,hc] at hs;subst hs;have hcd:=h c (by simp);have h2:=(isDig_iff c).1 hcd;rw [natOf_snoc]
  by_cases hmn:m=[]
  ·subst hmn
   rw [natOf_nil,decDigits,dif_pos (by omega)]
   simp only [Nat.mul_zero,Nat.zero_add,List.nil_append]
   rw [chard c hcd]
  ·have h3:(m ++ [c]).head?=m.head?:=by
    cases m with
    | nil=>exact absurd rfl hmn
    | cons a m=>rfl
   have hml:0<m.length:=List.length_pos_iff.2 hmn
   have h4:m.head?≠some 48:=by
    rcases h1 with h1|h1
    ·rw [←h3];exact h1
    ·simp at h1;exact absurd h1 hmn
   have hd:∀x ∈ m,isDig x=true:=fun x hx=>h x (by simp [hx]);have h5:=natOf_pos m hd hmn h4;rw [decDigits,dif_neg (by omega)];have e1:(10*natOf m+(c.toNat - 48)) / 10=natOf m:=by omega
   have e2:(10*natOf m+(c.toNat - 48)) % 10=c.toNat - 48:=by omega
   rw [e1,e2,chard c hcd];have hk':m.length<k:=by simp at hk;omega
   rw [ih m.length hk' m hd hmn (Or.inl h4) rfl]
theorem dec_head (n:Nat) (h:n≠0):(decDigits n).head?≠some 48:=by
 induction n using Nat.strongRecOn with
 | _ n ih=>
  by_cases hl:n<10
  ·rw [decDigits,dif_pos hl,List.head?_cons]
   intro e
   have:=congrArg UInt8.toNat (Option.some.inj e)
   rw [dchar _ hl] at this;have h9:(48:UInt8).toNat=48:=rfl;omega
  ·rw [decDigits,dif_neg hl]
   have h3:=dec_ne_nil (n / 10)
   cases hq:decDigits (n / 10) with
   | nil=>exact absurd hq h3
   | cons a m=>
    have:=ih (n / 10) (by omega) (by omega)
    rw [hq] at this;exact this
theorem dec_zero:decDigits 0=[48]:=by rw [decDigits,dif_pos (by decide)];rfl
def padTo (k r:Nat):List UInt8:=List.replicate (k - (decDigits r).length) 48 ++ decDigits r
theorem dec_length_le (k r:Nat) (hk:0<k) (hr:r<10 ^ k):(decDigits r).length≤k:=by
 rcases Nat.lt_or_ge k (decDigits r).length with h|h
 ·exfalso
  have hr0:r≠0:=by
   intro e;subst e;rw [dec_zero] at h;simp at h;omega
  have hd:=dec_isDig r;have hh:=dec_head r hr0;have hn:=natOf_dec r
  cases hq:decDigits r with
  | nil=>exact dec_ne_nil r hq
  | cons c m=>
   rw [hq] at h hd hh hn;rw [natOf_cons] at hn;have h2:=(isDig_iff c).1 (hd c (List.mem_cons_self ..))
   have h3:c.toNat≠48:=fun e=>hh (by
    rw [List.head?_cons];congr 1;apply UInt8.toNat_inj.1;rw [e];rfl)
   have h5:1*10 ^ m.length≤(c.toNat - 48)*10 ^ m.length:=Nat.mul_le_mul_right _ (by omega);have h6:10 ^ k≤10 ^ m.length:=Nat.pow_le_pow_right (by decide) (by simp at h;omega);omega
 ·exact h
theorem padTo_length (k r:Nat) (hk:0<k) (hr:r<10 ^ k):(padTo k r).length=k:=by
 have:=dec_length_le k r hk hr
 simp [padTo];omega
theorem natOf_zeros (k:Nat) (l:List UInt8):natOf (List.replicate k 48 ++ l)=natOf l:=by
 induction k with
 | zero=>simp
 | succ k ih=>rw [List.replicate_succ,List.cons_append,natOf_cons,ih];simp
theorem padTo_isDig (k r:Nat):∀c ∈ padTo k r,isDig c=true:=by
 intro c hc
 rcases List.mem_append.1 hc with h|h
 ·rw [List.mem_replicate] at h
  rw [h.2];rfl
 ·exact dec_isDig r c h
theorem dec_split (k q r:Nat) (hk:0<k) (hq:0<q) (hr:r<10 ^ k):decDigits (q*10 ^ k+r)=decDigits q ++ padTo k r:=by
 have h1:natOf (decDigits q ++ padTo k r)=q*10 ^ k+r:=by
  rw [natOf_append,natOf_dec,padTo_length k r hk hr];unfold padTo;rw [natOf_zeros,natOf_dec]
 rw [←h1];have hn:=dec_ne_nil q;refine dec_natOf _ ?_ (by simp [hn]) (Or.inl ?_)
 ·intro c hc
  rcases List.mem_append.1 hc with h|h
  ·exact dec_isDig q c h
  ·exact padTo_isDig k r c h
 ·cases hd:decDigits q with
  | nil=>exact absurd hd hn
  | cons a m=>
   have:=dec_head q (by omega)
   rw [hd] at this;exact this
def txt (q:Rat):List UInt8:=(if q.num<0 then [45] else []) ++ decDigits q.num.natAbs ++ (if q.den=1 then [] else 47 :: decDigits q.den)
end Go.Proofs.YtaaoleakkaloeaaGreatDoor
set_option linter.unusedVariables false
set_option maxRecDepth 100000
set_option maxHeartbeats 64000000
namespace Go.Proofs.YtaaoleakkaloeaaGreatDoor
open Go.RowKit
def cs10:List UInt8:=[48,49,50,51,52,53,54,55,56,57]
theorem cs10_dig (c:UInt8):cs10.contains c=isDig c:=by
 rw [Bool.eq_iff_iff,isDig_iff]
 constructor
 ·intro h
  simp [cs10] at h
  rcases h with rfl|rfl|rfl|rfl|rfl|rfl|rfl|rfl|rfl|rfl <;> decide
 ·intro h
  have:∀k:Nat,48≤k→k≤57→cs10.contains (UInt8.ofNat k)=true:=by
   intro k h1 h2
   have:k=48∨k=49∨k=50∨k=51∨k=52∨k=53∨k=54∨k=55∨k=56∨k=57:=by omega
   rcases this with rfl|rfl|rfl|rfl|rfl|rfl|rfl|rfl|rfl|rfl <;> decide
  have h3:=this c.toNat h.1 h.2
  rwa [UInt8.ofNat_toNat] at h3
theorem dropWhile_empty (p:UInt8→Bool) (l:List UInt8):(l.dropWhile p).isEmpty=l.all p:=by
 induction l with
 | nil=>rfl
 | cons a l ih=>
  rw [List.dropWhile_cons]
  split
  ·rename_i h;rw [ih,List.all_cons,h,Bool.true_and]
  ·rename_i h;simp [h]
theorem all_dropWhile (p:UInt8→Bool) (l:List UInt8):(l.dropWhile p).all p=l.all p:=by
 induction l with
 | nil=>rfl
 | cons a l ih=>
  rw [List.dropWhile_cons]
  split
  ·rename_i h;rw [ih,List.all_cons,h,Bool.true_and]
  ·rfl
theorem trim_digits (l:List UInt8):(Lib.trimS l cs10).isEmpty=l.all isDig:=by
 unfold Lib.trimS Lib.trimLeftS Lib.trimRightS;rw [dropWhile_empty,List.all_reverse,all_dropWhile,List.all_reverse]
 congr 1
 funext c
 exact cs10_dig c
def digB (l:List UInt8):Bool:=!l.isEmpty && l.all isDig
def plainB (l:List UInt8):Bool:=digB l && (l == [48] || l.head? != some 48)
theorem plain_cons {c:UInt8} {t:List UInt8} (h:digB (c :: t)=true):(c == 48 && t.isEmpty || ((c.toNat:Int) != 48))=plainB (c :: t):=by
 unfold plainB;rw [h,Bool.true_and]
 congr 1
 ·cases t <;> simp
 ·rw [Bool.eq_iff_iff]
  simp only [bne_iff_ne,List.head?_cons,ne_eq,Option.some.injEq]
  constructor
  ·intro h e;exact h (by rw [e];rfl)
  ·intro h e;exact h (UInt8.toNat_inj.1 (by have:(48:UInt8).toNat=48:=rfl;omega))
theorem digits_c (l:List UInt8) (hs:l.length≤9223372036854775807) (w:World):Calls Tryz.prog 105 #[.string ⟨l.toArray⟩] w fun e w'=>e=.returned (.bool (digB l))∧Ext w w':=by
 have h:=Any.strings_Trim_laid Tryz.lays160 (by kernel_rfl) ⟨l.toArray⟩ ⟨#[48,49,50,51,52,53,54,55,56,57]⟩ w hs (by decide) (ascii_of_all (by decide));have h2:=trim_digits l;unfold cs10 at h2
 change Calls Tryz.prog _ _ _ (fun e w'=>e=.returned (.string ⟨(Lib.trimS l [48,49,50,51,52,53,54,55,56,57]).toArray⟩)∧Below w.heap.size w w') at h
 generalize Lib.trimS l [48,49,50,51,52,53,54,55,56,57]=t at h h2;have H:=ZZ h;have H2:=ZZ h2;clear h h2
 rcases Decidable.em (l=[]) with h0|h0
 ·subst h0
  go_enter Tryz.func105,Tryz.ntmps105
  go_wp2_with fail;go_ret
  exact⟨rfl,ae _⟩
 ·go_enter Tryz.func105,Tryz.ntmps105
  go_wp2_with fail;refine H.out.mono ?_
  rintro e w1 ⟨rfl,h1⟩;have H1:=ZZ h1;clear h1;go_wp2_with fail;go_ret;refine⟨?_,H1.out⟩;unfold digB;rw [←H2.out]
  rfl
theorem plain_c (l:List UInt8) (hs:l.length≤9223372036854775807) (w:World):Calls Tryz.prog 65 #[.string ⟨l.toArray⟩] w fun e w'=>e=.returned (.bool (plainB l))∧Ext w w':=by
 have hd:=digits_c l hs w
 rcases hb:digB l with _|_
 ·rw [hb] at hd
  have H:=ZZ hd;have HB:=ZZ hb;clear hd hb
  go_enter Tryz.func65,Tryz.ntmps65
  go_wp2_with fail;refine H.out.mono ?_
  rintro e w1 ⟨rfl,h1⟩;have H1:=ZZ h1;clear h1;go_wp2_with fail;go_ret;exact⟨by unfold plainB;rw [HB.out];rfl,H1.out⟩
 ·cases l with
  | nil=>simp [digB] at hb
  | cons c t=>
   rw [hb] at hd;have H:=ZZ hd;have HB:=ZZ hb;clear hd hb
   rcases Decidable.em (c=48) with hc|hc
   ·subst hc
    rcases Decidable.em (t=[]) with ht|ht
    ·subst ht
     go_enter Tryz.func65,Tryz.ntmps65
     go_wp2_with fail;refine H.out.mono ?_
     rintro e w1 ⟨rfl,h1⟩;have H1:=ZZ h1;clear h1;go_wp2_with fail;go_ret;exact⟨by rw [←plain_cons HB.out];rfl,H1.out⟩
    ·go_enter Tryz.func65,Tryz.ntmps65
     go_wp2_with fail;refine H.out.mono ?_
     rintro e w1 ⟨rfl,h1⟩;have H1:=ZZ h1;clear h1;go_wp2_with fail;go_ret;exact⟨by rw [←plain_cons HB.out];rfl,H1.out⟩
   ·go_enter Tryz.func65,Tryz.ntmps65
    go_wp2_with fail;refine H.out.mono ?_
    rintro e w1 ⟨rfl,h1⟩;have H1:=ZZ h1;clear h1;go_wp2_with fail;go_ret;exact⟨by rw [←plain_cons HB.out];rfl,H1.out⟩
end Go.Proofs.YtaaoleakkaloeaaGreatDoor
set_option linter.unusedVariables false
set_option maxRecDepth 100000
set_option maxHeartbeats 64000000
namespace Go.Proofs.YtaaoleakkaloeaaGreatDoor
open Go.RowKit
theorem bq_inv2 {M:Nat} {x:Rat} (h:Bq M x) (h0:x≠0):Bq M (1 / x):=by
 have h1:=div_parts 1 x h0;rw [←h1];exact bq_rat (by rw [show (1:Rat).num=1 from rfl,show (1:Int).natAbs=1 from rfl,Nat.one_mul];exact h.2) (by rw [show (1:Rat).den=1 from rfl,Nat.one_mul];exact h.1) (by rw [show (1:Rat).den=1 from rfl,Nat.one_mul];exact fun e=>h0 (Rat.num_eq_zero.1 (Int.natAbs_eq_zero.1 e)))
def topF (p:List Rat):Rat:=co p (p.length - 1)
def monicF (p:List Rat):List Rat:=if trimF p=[] then [] else scaleF (trimF p) (1 / topF (trimF p))
theorem monic_p (M:Nat) (hM:M≤1099511627000) (vp:Value) (p:List Rat) (hlp:p.length≤1000000) (w:World) (hp:Pl w vp p) (hbp:∀x ∈ p,Bq M x):Calls Tryz.prog 79 #[vp] w fun e w'=>∃v',e=.returned v'∧PlN w.heap.size w' v' (monicF p)∧Ext w w':=by
 have HP:=ZZ hp;have HLP:=ZZ hlp;have HBP:=ZZ hbp;have HM:=ZZ hM;clear hp hlp hbp hM
 go_enter Tryz.func79,Tryz.ntmps79
 go_wp2_with fail;refine(trim_q _ p HLP.out _ HP.out).mono ?_
 rintro e w3 ⟨v3,rfl,h3,k3⟩;obtain⟨A,cap,e3,hc,hA⟩:=h3.pl;obtain⟨n,hn⟩:∃n,(trimF p).length=n:=⟨_,rfl⟩;rw [hn] at e3;subst e3;have HN:=ZZ hn;have H3:=ZZ h3.pl;have K3:=ZZ k3;have HT:=ZZ (show n≤p.length by rw [←hn];exact trim_le p);clear h3 k3 hc hA hn
 rcases Nat.eq_zero_or_pos n with h0|h0
 ·subst h0
  go_wp2_with fail;go_ret
  have e0:trimF p=[]:=List.length_eq_zero_iff.1 HN.out;exact⟨_,rfl,.inl ⟨rfl,if_pos e0⟩,K3.out⟩
 ·obtain⟨k,rfl⟩:∃k,n=k+1:=⟨n - 1,by omega⟩
  have z0:(((k+1:Nat):Int) == 0)=false:=by rw [beq_eq_false_iff_ne];omega
  have z1:((k:Int)+1 == 0)=false:=by rw [beq_eq_false_iff_ne];omega
  have HNE:=ZZ (show trimF p≠[] from fun e=>by have:=HN.out;rw [e] at this;simp at this)
  have HTOP:=ZZ (show (trimF p)[k]?=some (topF (trimF p)) by
   unfold topF co;rw [HN.out,Nat.add_sub_cancel,List.getElem?_eq_getElem (by rw [HN.out];exact Nat.lt_succ_self k)];rfl)
  have HT0:=ZZ (show topF (trimF p)≠0 by
   have h1:=trim_last HNE.out;unfold topF;rw [co_trim];exact h1)
  have BT:=ZZ (HBP.out _ (trim_mem (List.mem_of_getElem? HTOP.out)));have BONE:=ZZ (show Bq 64 (1:Rat) from bq_int 1 (by decide) (by decide));clear h0;go_wp2_with fail;refine(int_q 1 (by decide) (by decide) _).mono ?_;rintro e w4 ⟨v4,rfl,h4,k4⟩;have H4:=ZZ (show Nm w4 v4 1 from h4);have K4:=ZZ k4;clear h4 k4;go_wp2_with fail;have H3':=ZZ (show Pl w4 (.slice A (k+1) cap) (trimF p) from H3.out.mono K4.out);refine(top_q _ (trimF p) (by rw [HN.out];exact Nat.le_trans HT.out HLP.out) k _ HN.out HTOP.out _ H3'.out).mono ?_;rintro e w5 ⟨v5,rfl,h5,k5⟩;have H5:=ZZ h5;have K5:=ZZ k5;clear h5 k5;go_wp2_with fail;refine(over_q (M+64) (by have:=HM.out;omega) _ _ 1 (topF (trimF p)) _ (H4.out.mono K5.out) H5.out (BONE.out.mono (by omega)) (BT.out.mono (by omega)) HT0.out).mono ?_;rintro e w6 ⟨v6,rfl,h6,k6⟩;have H6:=ZZ h6;have K6:=ZZ (ak K4.out (ak K5.out k6));clear h6 k6;go_wp2_with fail;refine(scale_q M (by have:=HM.out;omega) _ _ (trimF p) (1 / topF (trimF p)) (by rw [HN.out];exact Nat.le_trans HT.out HLP.out) _ (H3.out.mono K6.out) H6.out (fun x hx=>HBP.out x (trim_mem hx)) (bq_inv2 BT.out HT0.out)).mono ?_;rintro e w7 ⟨v7,rfl,h7,k7⟩;have H7:=ZZ h7;have K7:=ZZ (ak K3.out (ak K6.out k7));have L7:=ZZ (ak K3.out K6.out).size;clear h7 k7;go_wp2_with fail;go_ret;refine⟨_,rfl,?_,K7.out⟩;rw [show monicF p=scaleF (trimF p) (1 / topF (trimF p)) from if_neg HNE.out]
  rcases H7.out with hn|⟨g,hg,hn⟩
  ·exact .inl hn
  ·exact .inr ⟨g,Nat.le_trans L7.out hg,hn⟩
end Go.Proofs.YtaaoleakkaloeaaGreatDoor
set_option linter.unusedVariables false
set_option maxRecDepth 100000
set_option maxHeartbeats 64000000
namespace Go.Proofs.YtaaoleakkaloeaaGreatDoor
open Go.RowKit
theorem pl_two {w:World} {s1 s2:Bool} {A1 B1 A2 B2:Option Addr} {k1 ca1 l1 cb1 k2 ca2 l2 cb2:Nat} {x y:Rat} (h1:Nm w (.agg #[.bool s1,.slice A1 k1 ca1,.slice B1 l1 cb1]) x) (h2:Nm w (.agg #[.bool s2,.slice A2 k2 ca2,.slice B2 l2 cb2]) y):Pl (w.alloc (.cells #[.bool s1,.slice A1 k1 ca1,.slice B1 l1 cb1,.bool s2,.slice A2 k2 ca2,.slice B2 l2 cb2] 36)) (.slice (some ⟨w.heap.size,0,none⟩) 2 2) [x,y]:=by
 have hr:=heap_alloc_new w (.cells #[.bool s1,.slice A1 k1 ca1,.slice B1 l1 cb1,.bool s2,.slice A2 k2 ca2,.slice B2 l2 cb2] 36);have e:=ab w (.cells #[.bool s1,.slice A1 k1 ca1,.slice B1 l1 cb1,.bool s2,.slice A2 k2 ca2,.slice B2 l2 cb2] 36);refine⟨_,2,rfl,Nat.le_refl _,.inr ⟨_,0,rfl,fun i q hq=>?_⟩⟩
 match i,hq with
 | 0,hq=>obtain rfl:x=q:=Option.some.inj hq;exact⟨_,_,_,_,_,_,_,by rw [cell_of_row _ _ _ _ _ _ hr];rfl,by rw [cell_of_row _ _ _ _ _ _ hr];rfl,by rw [cell_of_row _ _ _ _ _ _ hr];rfl,h1.mono e⟩
 | 1,hq=>obtain rfl:y=q:=Option.some.inj hq;exact⟨_,_,_,_,_,_,_,by rw [cell_of_row _ _ _ _ _ _ hr];rfl,by rw [cell_of_row _ _ _ _ _ _ hr];rfl,by rw [cell_of_row _ _ _ _ _ _ hr];rfl,h2.mono e⟩
theorem line_p (w:World):Calls Tryz.prog 33 #[] w fun e w'=>∃v',e=.returned v'∧Pl w' v' [0,1]∧Ext w w':=by
 go_enter Tryz.func33,Tryz.ntmps33
 go_wp2_with fail;refine(int_q 0 (by decide) (by decide) _).mono ?_
 rintro e w3 ⟨v3,rfl,h3,k3⟩;obtain⟨s1,A1,k1,ca1,B1,l1,cb1,rfl⟩:=h3.form2;have H3:=ZZ (show Nm w3 (.agg #[.bool s1,.slice A1 k1 ca1,.slice B1 l1 cb1]) 0 from h3);have K3:=ZZ k3;clear h3 k3;go_wp2_with fail;refine(int_q 1 (by decide) (by decide) _).mono ?_;rintro e w4 ⟨v4,rfl,h4,k4⟩;obtain⟨s2,A2,k2,ca2,B2,l2,cb2,rfl⟩:=h4.form2;have H4:=ZZ (show Nm w4 (.agg #[.bool s2,.slice A2 k2 ca2,.slice B2 l2 cb2]) 1 from h4);have K4:=ZZ k4;clear h4 k4;go_wp2_with fail;go_ret;exact⟨_,rfl,pl_two (H3.out.mono K4.out) H4.out,ak K3.out (ak K4.out (ab _ _))⟩
end Go.Proofs.YtaaoleakkaloeaaGreatDoor
set_option linter.unusedVariables false
set_option maxRecDepth 100000
set_option maxHeartbeats 64000000
namespace Go.Proofs.YtaaoleakkaloeaaGreatDoor
def pcv (f g:Nat→Rat):Nat→Nat→Rat
 | 0,_=>0
 | i+1,k=>pcv f g i k+(if i≤k then f i*g (k - i) else 0)
theorem pcv_succ (f g:Nat→Rat) (i k:Nat):pcv f g (i+1) k=pcv f g i k+(if i≤k then f i*g (k - i) else 0):=rfl
theorem pcv_shift (f g:Nat→Rat) (i k:Nat):pcv f g (i+1) (k+1)=f 0*g (k+1)+pcv (fun j=>f (j+1)) g i k:=by
 induction i with
 | zero=>rw [pcv_succ,if_pos (Nat.zero_le _)];show 0+f 0*g (k+1)=f 0*g (k+1)+0;grind
 | succ i ih=>
  rw [pcv_succ,ih,pcv_succ (fun j=>f (j+1)),Nat.add_sub_add_right]
  by_cases h:i≤k
  ·rw [if_pos h,if_pos (by omega)];grind
  ·rw [if_neg h,if_neg (by omega)];grind
theorem pcv_more (f g:Nat→Rat) (k n:Nat):pcv f g (k+1+n) k=pcv f g (k+1) k:=by
 induction n with
 | zero=>rfl
 | succ n ih=>rw [show k+1+(n+1)=(k+1+n)+1 by omega,pcv_succ,if_neg (by omega),ih];grind
theorem pcv_zero {f:Nat→Rat} {m:Nat} (h:∀i,m≤i→f i=0) (g:Nat→Rat) (k n:Nat):pcv f g (m+n) k=pcv f g m k:=by
 induction n with
 | zero=>rfl
 | succ n ih=>
  rw [show m+(n+1)=(m+n)+1 by omega,pcv_succ,ih,h (m+n) (by omega)]
  split <;> grind
theorem cnv_pcv (f g:Nat→Rat) (k:Nat):cnv f g k=pcv f g (k+1) k:=by
 induction k generalizing f with
 | zero=>rw [pcv_succ,if_pos (Nat.le_refl _)];show f 0*g 0=0+f 0*g 0;grind
 | succ k ih=>rw [cnv_succ,ih,pcv_shift]
theorem pcv_all {f:Nat→Rat} {m:Nat} (h:∀i,m≤i→f i=0) (g:Nat→Rat) (k:Nat):pcv f g m k=cnv f g k:=by
 rw [cnv_pcv]
 rcases Nat.le_total m (k+1) with e|e
 ·obtain⟨n,hn⟩:∃n,k+1=m+n:=⟨k+1 - m,by omega⟩
  rw [hn,pcv_zero h]
 ·obtain⟨n,hn⟩:∃n,m=k+1+n:=⟨m - (k+1),by omega⟩
  rw [hn,pcv_more]
def accL (p q:List Rat) (i j:Nat):List Rat:=(List.range (p.length+q.length)).map fun k=>pcv (co p) (co q) i k+(if i≤k∧k<i+j then co p i*co q (k - i) else 0)
theorem acc_len (p q:List Rat) (i j:Nat):(accL p q i j).length=p.length+q.length:=by simp [accL]
theorem acc_get (p q:List Rat) (i j:Nat) {k:Nat} (hk:k<p.length+q.length):(accL p q i j)[k]?=some (pcv (co p) (co q) i k+(if i≤k∧k<i+j then co p i*co q (k - i) else 0)):=by
 unfold accL;rw [List.getElem?_map,List.getElem?_range hk];rfl
theorem acc_ext (p q:List Rat) (i j i' j':Nat) (h:∀k,pcv (co p) (co q) i k+(if i≤k∧k<i+j then co p i*co q (k - i) else 0)=pcv (co p) (co q) i' k+(if i'≤k∧k<i'+j' then co p i'*co q (k - i') else 0)):accL p q i j=accL p q i' j':=by
 unfold accL;exact List.map_congr_left fun k _=>h k
theorem acc_zero (p q:List Rat):accL p q 0 0=List.replicate (p.length+q.length) 0:=by
 apply List.ext_getElem?
 intro k
 rcases Nat.lt_or_ge k (p.length+q.length) with hk|hk
 ·rw [acc_get p q 0 0 hk,if_neg (by omega),List.getElem?_replicate,if_pos hk]
  show some ((0:Rat)+0)=some 0
  rw [Rat.add_zero]
 ·rw [List.getElem?_eq_none (by rw [acc_len];exact hk),List.getElem?_eq_none (by rw [List.length_replicate];exact hk)]
theorem acc_at (p q:List Rat) {i j:Nat} (hi:i<p.length) (hj:j<q.length):(accL p q i j)[i+j]?=some (pcv (co p) (co q) i (i+j)):=by
 rw [acc_get p q i j (by omega),if_neg (by omega),Rat.add_zero]
theorem acc_set (p q:List Rat) {i j:Nat} (hi:i<p.length) (hj:j<q.length):(accL p q i j).set (i+j) (pcv (co p) (co q) i (i+j)+co p i*co q j)=accL p q i (j+1):=by
 apply List.ext_getElem?
 intro k
 rcases Nat.lt_or_ge k (p.length+q.length) with hk|hk
 ·by_cases e:i+j=k
  ·subst e
   rw [List.getElem?_set_self (by rw [acc_len];exact hk),acc_get p q i (j+1) hk,if_pos (by omega),Nat.add_sub_cancel_left]
  ·rw [List.getElem?_set_ne e,acc_get p q i j hk,acc_get p q i (j+1) hk]
   by_cases h:i≤k∧k<i+j
   ·rw [if_pos h,if_pos (by omega)]
   ·rw [if_neg h,if_neg (by omega)]
 ·rw [List.getElem?_eq_none (by rw [List.length_set,acc_len];exact hk),List.getElem?_eq_none (by rw [acc_len];exact hk)]
theorem acc_next (p q:List Rat) (i:Nat):accL p q i q.length=accL p q (i+1) 0:=by
 refine acc_ext _ _ _ _ _ _ fun k=>?_;rw [pcv_succ,if_neg (c:=i+1≤k∧k<i+1+0) (by omega),Rat.add_zero]
 by_cases h:i≤k
 ·by_cases h2:k<i+q.length
  ·rw [if_pos ⟨h,h2⟩,if_pos h]
  ·rw [if_neg (by omega),if_pos h,co_ge (p:=q) (i:=k - i) (by omega)];grind
 ·rw [if_neg (by omega),if_neg h]
theorem acc_skip (p q:List Rat) (i:Nat) (h0:co p i=0):accL p q i 0=accL p q (i+1) 0:=by
 refine acc_ext _ _ _ _ _ _ fun k=>?_;rw [pcv_succ,if_neg (c:=i+1≤k∧k<i+1+0) (by omega),if_neg (c:=i≤k∧k<i+0) (by omega),h0]
 split <;> grind
def mulF (p q:List Rat):List Rat:=trimF (mulR p q)
theorem mulF_acc (p q:List Rat):trimF (accL p q p.length 0)=mulF p q:=trim_co fun k=>by
 rw [co_mulR]
 rcases Nat.lt_or_ge k (p.length+q.length) with hk|hk
 ·show ((accL p q p.length 0)[k]?).getD 0=_
  rw [acc_get p q _ 0 hk,if_neg (by omega),Rat.add_zero];exact pcv_all (fun i hi=>co_ge hi) _ _
 ·rw [co_ge (by rw [acc_len];exact hk),←pcv_all (m:=p.length) (fun i hi=>co_ge hi)]
  have h:∀n,n≤p.length→pcv (co p) (co q) n k=0:=by
   intro n
   induction n with
   | zero=>intro _;rfl
   | succ n ih=>
    intro hn;rw [pcv_succ,ih (by omega),co_ge (p:=q) (i:=k - n) (by omega)]
    split <;> grind
  exact(h _ (Nat.le_refl _)).symm
theorem bq_co {M:Nat} {p:List Rat} (hM:0<M) (h:∀x ∈ p,Bq M x) (i:Nat):Bq M (co p i):=by
 rcases Nat.lt_or_ge i p.length with hi|hi
 ·have e:p[i]?=some (co p i):=by unfold co;rw [List.getElem?_eq_getElem hi];rfl
  exact h _ (List.mem_of_getElem? e)
 ·rw [co_ge hi];exact bq_zero M hM
theorem pcv_bq {M:Nat} {f g:Nat→Rat} (hf:∀i,Bq M (f i)) (hg:∀i,Bq M (g i)) (i k:Nat):Bq (i*(M+M+1)+1) (pcv f g i k):=by
 induction i with
 | zero=>exact bq_zero _ (by omega)
 | succ i ih=>
  rw [pcv_succ]
  split
  ·exact(ih.add ((hf i).mul (hg (k - i)))).mono (by rw [Nat.succ_mul];omega)
  ·rw [Rat.add_zero];exact ih.mono (by rw [Nat.succ_mul];omega)
end Go.Proofs.YtaaoleakkaloeaaGreatDoor
