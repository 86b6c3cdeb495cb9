/- Plain laws of decimal numerals. -/
import Derived.Test.YtkoaakefgacokaaGreatDoorGWj
import Derived.Lib.ItoaNum
import Derived.Test.YtkoaakefgacokaaGreatDoorGShelf
import Derived.Test.YtkoaakefgacokaaGreatDoorGRd
import Derived.Shelf.Strings.SlTrimAscii
import Derived.Test.YtkoaakefgacokaaGreatDoorGQh
import Derived.Test.YtkoaakefgacokaaGreatDoorGNg
set_option linter.unusedVariables false
set_option maxRecDepth 100000
set_option maxHeartbeats 64000000
namespace Go.Proofs.YtkoaakefgacokaaGreatDoor
open Go.RowKit Go.Lib
def natOf (l:List UInt8):Nat:=l.foldl (fun n c=>10*n+(c.toNat - 48)) 0
def isDig (c:UInt8):Bool:=decide (48≤c.toNat) && decide (c.toNat≤57)
theorem isDig_iff (c:UInt8):isDig c=true↔48≤c.toNat∧c.toNat≤57:=by
 unfold isDig;simp
theorem natOf_nil:natOf []=0:=rfl
theorem natOf_snoc (l:List UInt8) (c:UInt8):natOf (l ++ [c])=10*natOf l+(c.toNat - 48):=by
 simp [natOf,List.foldl_append]
theorem natOf_acc (l:List UInt8) (a:Nat):l.foldl (fun n c=>10*n+(c.toNat - 48)) a=a*10 ^ l.length+natOf l:=by
 induction l generalizing a with
 | nil=>simp [natOf]
 | cons c l ih=>
  unfold natOf
  simp only [List.foldl_cons,List.length_cons]
  rw [ih,ih (10*0+(c.toNat - 48)),Nat.pow_succ,Nat.mul_zero,Nat.zero_add,Nat.add_mul]
  have:10*a*10 ^ l.length=a*(10 ^ l.length*10):=by rw [Nat.mul_comm 10 a,Nat.mul_assoc,Nat.mul_comm 10]
  omega
theorem natOf_append (l m:List UInt8):natOf (l ++ m)=natOf l*10 ^ m.length+natOf m:=by
 unfold natOf;rw [List.foldl_append];exact natOf_acc m _
theorem natOf_cons (c:UInt8) (l:List UInt8):natOf (c :: l)=(c.toNat - 48)*10 ^ l.length+natOf l:=by
 have:=natOf_append [c] l
 rw [List.singleton_append] at this;rw [this];simp [natOf]
theorem natOf_lt (l:List UInt8) (h:∀c ∈ l,isDig c=true):natOf l<10 ^ l.length:=by
 induction l with
 | nil=>simp [natOf]
 | cons c l ih=>
  rw [natOf_cons,List.length_cons,Nat.pow_succ];have h1:=ih fun d hd=>h d (List.mem_cons_of_mem _ hd);have h2:=(isDig_iff c).1 (h c (List.mem_cons_self ..));have h3:(c.toNat - 48)*10 ^ l.length≤9*10 ^ l.length:=Nat.mul_le_mul_right _ (by omega);omega
theorem dchar (d:Nat) (h:d<10):(UInt8.ofNat (48+d)).toNat=48+d:=by
 rw [UInt8.toNat_ofNat'];exact Nat.mod_eq_of_lt (by omega)
theorem chard (c:UInt8) (h:isDig c=true):UInt8.ofNat (48+(c.toNat - 48))=c:=by
 have h2:=(isDig_iff c).1 h
 apply UInt8.toNat_inj.1
 rw [dchar _ (by omega)];omega
theorem natOf_dec (n:Nat):natOf (decDigits n)=n:=by
 induction n using Nat.strongRecOn with
 | _ n ih=>
  by_cases h:n<10
  ·rw [decDigits,dif_pos h];(simp [natOf];omega)
  ·rw [decDigits,dif_neg h,natOf_snoc,ih _ (by omega),dchar _ (by omega)];omega
theorem dec_ne_nil (n:Nat):decDigits n≠[]:=by
 rw [decDigits];split <;> simp
theorem dec_isDig (n:Nat):∀c ∈ decDigits n,isDig c=true:=by
 induction n using Nat.strongRecOn with
 | _ n ih=>
  intro c hc
  by_cases h:n<10
  ·rw [decDigits,dif_pos h] at hc
   simp only [List.mem_singleton] at hc
   rw [hc,isDig_iff,dchar _ h];omega
  ·rw [decDigits,dif_neg h] at hc
   rcases List.mem_append.1 hc with hc|hc
   ·exact ih _ (by omega) c hc
   ·simp only [List.mem_singleton] at hc
    rw [hc,isDig_iff,dchar _ (by omega)];omega
theorem natOf_pos (l:List UInt8) (h:∀c ∈ l,isDig c=true) (h0:l≠[]) (h1:l.head?≠some 48):0<natOf l:=by
 cases l with
 | nil=>exact absurd rfl h0
 | cons c l=>
  rw [natOf_cons];have h2:=(isDig_iff c).1 (h c (List.mem_cons_self ..))
  have h3:c.toNat≠48:=fun e=>h1 (by
   rw [List.head?_cons];congr 1;apply UInt8.toNat_inj.1;rw [e];rfl)
  have h4:0<10 ^ l.length:=Nat.pow_pos (by decide);have h5:1*10 ^ l.length≤(c.toNat - 48)*10 ^ l.length:=Nat.mul_le_mul_right _ (by omega);omega
theorem dec_natOf (l:List UInt8) (h:∀c ∈ l,isDig c=true) (h0:l≠[]) (h1:l.head?≠some 48∨l.length=1):decDigits (natOf l)=l:=by
 obtain⟨k,hk⟩:∃k,l.length=k:=⟨_,rfl⟩
 induction k using Nat.strongRecOn generalizing l with
 | _ k ih=>
  have hs:=List.dropLast_concat_getLast h0;obtain⟨m,hm⟩:∃m,l.dropLast=m:=⟨_,rfl⟩;obtain⟨c,hc⟩:∃c,l.getLast h0=c:=⟨_,rfl⟩;rw [hm,hc] at hs;subst hs;have hcd:=h c (by simp);have h2:=(isDig_iff c).1 hcd;rw [natOf_snoc]
  by_cases hmn:m=[]
  ·subst hmn
   rw [natOf_nil,decDigits,dif_pos (by omega)]
   simp only [Nat.mul_zero,Nat.zero_add,List.nil_append]
   rw [chard c hcd]
  ·have h3:(m ++ [c]).head?=m.head?:=by
    cases m with
    | nil=>exact absurd rfl hmn
    | cons a m=>rfl
   have hml:0<m.length:=List.length_pos_iff.2 hmn
   have h4:m.head?≠some 48:=by
    rcases h1 with h1|h1
    ·rw [←h3];exact h1
    ·simp at h1;exact absurd h1 hmn
   have hd:∀x ∈ m,isDig x=true:=fun x hx=>h x (by simp [hx]);have h5:=natOf_pos m hd hmn h4;rw [decDigits,dif_neg (by omega)];have e1:(10*natOf m+(c.toNat - 48)) / 10=natOf m:=by omega
   have e2:(10*natOf m+(c.toNat - 48)) % 10=c.toNat - 48:=by omega
   rw [e1,e2,chard c hcd];have hk':m.length<k:=by simp at hk;omega
   rw [ih m.length hk' m hd hmn (Or.inl h4) rfl]
theorem dec_head (n:Nat) (h:n≠0):(decDigits n).head?≠some 48:=by
 induction n using Nat.strongRecOn with
 | _ n ih=>
  by_cases hl:n<10
  ·rw [decDigits,dif_pos hl,List.head?_cons]
   intro e
   have:=congrArg UInt8.toNat (Option.some.inj e)
   rw [dchar _ hl] at this;have h9:(48:UInt8).toNat=48:=rfl;omega
  ·rw [decDigits,dif_neg hl]
   have h3:=dec_ne_nil (n / 10)
   cases hq:decDigits (n / 10) with
   | nil=>exact absurd hq h3
   | cons a m=>
    have:=ih (n / 10) (by omega) (by omega)
    rw [hq] at this;exact this
theorem dec_zero:decDigits 0=[48]:=by rw [decDigits,dif_pos (by decide)];rfl
def padTo (k r:Nat):List UInt8:=List.replicate (k - (decDigits r).length) 48 ++ decDigits r
theorem dec_length_le (k r:Nat) (hk:0<k) (hr:r<10 ^ k):(decDigits r).length≤k:=by
 rcases Nat.lt_or_ge k (decDigits r).length with h|h
 ·exfalso
  have hr0:r≠0:=by
   intro e;subst e;rw [dec_zero] at h;simp at h;omega
  have hd:=dec_isDig r;have hh:=dec_head r hr0;have hn:=natOf_dec r
  cases hq:decDigits r with
  | nil=>exact dec_ne_nil r hq
  | cons c m=>
   rw [hq] at h hd hh hn;rw [natOf_cons] at hn;have h2:=(isDig_iff c).1 (hd c (List.mem_cons_self ..))
   have h3:c.toNat≠48:=fun e=>hh (by
    rw [List.head?_cons];congr 1;apply UInt8.toNat_inj.1;rw [e];rfl)
   have h5:1*10 ^ m.length≤(c.toNat - 48)*10 ^ m.length:=Nat.mul_le_mul_right _ (by omega);have h6:10 ^ k≤10 ^ m.length:=Nat.pow_le_pow_right (by decide) (by simp at h;omega);omega
 ·exact h
theorem padTo_length (k r:Nat) (hk:0<k) (hr:r<10 ^ k):(padTo k r).length=k:=by
 have:=dec_length_le k r hk hr
 simp [padTo];omega
theorem natOf_zeros (k:Nat) (l:List UInt8):natOf (List.replicate k 48 ++ l)=natOf l:=by
 induction k with
 | zero=>simp
 | succ k ih=>rw [List.replicate_succ,List.cons_append,natOf_cons,ih];simp
theorem padTo_isDig (k r:Nat):∀c ∈ padTo k r,isDig c=true:=by
 intro c hc
 rcases List.mem_append.1 hc with h|h
 ·rw [List.mem_replicate] at h
  rw [h.2];rfl
 ·exact dec_isDig r c h
theorem dec_split (k q r:Nat) (hk:0<k) (hq:0<q) (hr:r<10 ^ k):decDigits (q*10 ^ k+r)=decDigits q ++ padTo k r:=by
 have h1:natOf (decDigits q ++ padTo k r)=q*10 ^ k+r:=by
  rw [natOf_append,natOf_dec,padTo_length k r hk hr];unfold padTo;rw [natOf_zeros,natOf_dec]
 rw [←h1];have hn:=dec_ne_nil q;refine dec_natOf _ ?_ (by simp [hn]) (Or.inl ?_)
 ·intro c hc
  rcases List.mem_append.1 hc with h|h
  ·exact dec_isDig q c h
  ·exact padTo_isDig k r c h
 ·cases hd:decDigits q with
  | nil=>exact absurd hd hn
  | cons a m=>
   have:=dec_head q (by omega)
   rw [hd] at this;exact this
def txt (q:Rat):List UInt8:=(if q.num<0 then [45] else []) ++ decDigits q.num.natAbs ++ (if q.den=1 then [] else 47 :: decDigits q.den)
end Go.Proofs.YtkoaakefgacokaaGreatDoor
namespace Go.Proofs.YtkoaakefgacokaaGreatDoor
open Go.RowKit
def cs10:List UInt8:=[48,49,50,51,52,53,54,55,56,57]
theorem cs10_dig (c:UInt8):cs10.contains c=isDig c:=by
 rw [Bool.eq_iff_iff,isDig_iff]
 constructor
 ·intro h
  simp [cs10] at h
  rcases h with rfl|rfl|rfl|rfl|rfl|rfl|rfl|rfl|rfl|rfl <;> decide
 ·intro h
  have:∀k:Nat,48≤k→k≤57→cs10.contains (UInt8.ofNat k)=true:=by
   intro k h1 h2
   have:k=48∨k=49∨k=50∨k=51∨k=52∨k=53∨k=54∨k=55∨k=56∨k=57:=by omega
   rcases this with rfl|rfl|rfl|rfl|rfl|rfl|rfl|rfl|rfl|rfl <;> decide
  have h3:=this c.toNat h.1 h.2
  rwa [UInt8.ofNat_toNat] at h3
theorem dropWhile_empty (p:UInt8→Bool) (l:List UInt8):(l.dropWhile p).isEmpty=l.all p:=by
 induction l with
 | nil=>rfl
 | cons a l ih=>
  rw [List.dropWhile_cons]
  split
  ·rename_i h;rw [ih,List.all_cons,h,Bool.true_and]
  ·rename_i h;simp [h]
theorem all_dropWhile (p:UInt8→Bool) (l:List UInt8):(l.dropWhile p).all p=l.all p:=by
 induction l with
 | nil=>rfl
 | cons a l ih=>
  rw [List.dropWhile_cons]
  split
  ·rename_i h;rw [ih,List.all_cons,h,Bool.true_and]
  ·rfl
theorem trim_digits (l:List UInt8):(Lib.trimS l cs10).isEmpty=l.all isDig:=by
 unfold Lib.trimS Lib.trimLeftS Lib.trimRightS;rw [dropWhile_empty,List.all_reverse,all_dropWhile,List.all_reverse]
 congr 1
 funext c
 exact cs10_dig c
def digB (l:List UInt8):Bool:=!l.isEmpty && l.all isDig
def plainB (l:List UInt8):Bool:=digB l && (l == [48] || l.head? != some 48)
theorem plain_cons {c:UInt8} {t:List UInt8} (h:digB (c :: t)=true):(c == 48 && t.isEmpty || ((c.toNat:Int) != 48))=plainB (c :: t):=by
 unfold plainB;rw [h,Bool.true_and]
 congr 1
 ·cases t <;> simp
 ·rw [Bool.eq_iff_iff]
  simp only [bne_iff_ne,List.head?_cons,ne_eq,Option.some.injEq]
  constructor
  ·intro h e;exact h (by rw [e];rfl)
  ·intro h e;exact h (UInt8.toNat_inj.1 (by have:(48:UInt8).toNat=48:=rfl;omega))
theorem digits_c (l:List UInt8) (hs:l.length≤9223372036854775807) (w:World):Calls Tryz.prog 95 #[.string ⟨l.toArray⟩] w fun e w'=>e=.returned (.bool (digB l))∧Ext w w':=by
 have h:=Any.strings_Trim_laid Tryz.lays160 (by kernel_rfl) ⟨l.toArray⟩ ⟨#[48,49,50,51,52,53,54,55,56,57]⟩ w hs (by decide) (ascii_of_all (by decide));have h2:=trim_digits l;unfold cs10 at h2
 change Calls Tryz.prog _ _ _ (fun e w'=>e=.returned (.string ⟨(Lib.trimS l [48,49,50,51,52,53,54,55,56,57]).toArray⟩)∧Below w.heap.size w w') at h
 generalize Lib.trimS l [48,49,50,51,52,53,54,55,56,57]=t at h h2;have H:=ZZ h;have H2:=ZZ h2;clear h h2
 rcases Decidable.em (l=[]) with h0|h0
 ·subst h0
  go_enter Tryz.func95,Tryz.ntmps95
  go_wp2_with fail;go_ret
  exact⟨rfl,ae _⟩
 ·go_enter Tryz.func95,Tryz.ntmps95
  go_wp2_with fail;refine H.out.mono ?_
  rintro e w1 ⟨rfl,h1⟩;have H1:=ZZ h1;clear h1;go_wp2_with fail;go_ret;refine⟨?_,H1.out⟩;unfold digB;rw [←H2.out]
  rfl
theorem plain_c (l:List UInt8) (hs:l.length≤9223372036854775807) (w:World):Calls Tryz.prog 50 #[.string ⟨l.toArray⟩] w fun e w'=>e=.returned (.bool (plainB l))∧Ext w w':=by
 have hd:=digits_c l hs w
 rcases hb:digB l with _|_
 ·rw [hb] at hd
  have H:=ZZ hd;have HB:=ZZ hb;clear hd hb
  go_enter Tryz.func50,Tryz.ntmps50
  go_wp2_with fail;refine H.out.mono ?_
  rintro e w1 ⟨rfl,h1⟩;have H1:=ZZ h1;clear h1;go_wp2_with fail;go_ret;exact⟨by unfold plainB;rw [HB.out];rfl,H1.out⟩
 ·cases l with
  | nil=>simp [digB] at hb
  | cons c t=>
   rw [hb] at hd;have H:=ZZ hd;have HB:=ZZ hb;clear hd hb
   rcases Decidable.em (c=48) with hc|hc
   ·subst hc
    rcases Decidable.em (t=[]) with ht|ht
    ·subst ht
     go_enter Tryz.func50,Tryz.ntmps50
     go_wp2_with fail;refine H.out.mono ?_
     rintro e w1 ⟨rfl,h1⟩;have H1:=ZZ h1;clear h1;go_wp2_with fail;go_ret;exact⟨by rw [←plain_cons HB.out];rfl,H1.out⟩
    ·go_enter Tryz.func50,Tryz.ntmps50
     go_wp2_with fail;refine H.out.mono ?_
     rintro e w1 ⟨rfl,h1⟩;have H1:=ZZ h1;clear h1;go_wp2_with fail;go_ret;exact⟨by rw [←plain_cons HB.out];rfl,H1.out⟩
   ·go_enter Tryz.func50,Tryz.ntmps50
    go_wp2_with fail;refine H.out.mono ?_
    rintro e w1 ⟨rfl,h1⟩;have H1:=ZZ h1;clear h1;go_wp2_with fail;go_ret;exact⟨by rw [←plain_cons HB.out];rfl,H1.out⟩
theorem add_lg (M:Nat) (hM:M≤1099511627776) (vp vq:Value) (p q:List Rat) (hlp:p.length≤1000000) (va vb:Value) (hle:(va=vp∧vb=vq∧q.length≤p.length)∨(va=vq∧vb=vp∧q.length<p.length)) (w:World) (hp:Pl w vp p) (hq:Pl w vq q) (hbp:∀x ∈ p,Bq M x) (hbq:∀x ∈ q,Bq M x):Calls Tryz.prog 69 #[va,vb] w fun e w'=>∃v',e=.returned v'∧PlN w.heap.size w' v' (addF p q)∧Ext w w':=by
 obtain⟨A,cap,rfl,hc,hA⟩:=id hp;obtain⟨C,cap2,rfl,hc2,hC⟩:=id hq;obtain⟨m,hm⟩:∃m,p.length=m:=⟨_,rfl⟩;obtain⟨n,hn⟩:∃n,q.length=n:=⟨_,rfl⟩;rw [hm] at hp hle;rw [hn] at hle;have HP:=ZZ hp;have HLP:=ZZ hlp;have HLE:=ZZ (show q.length≤p.length by rw [hm,hn];rcases hle with ⟨-,-,h⟩|⟨-,-,h⟩ <;> omega);have HMM:=ZZ hm;have HNN:=ZZ hn;have HCC:=ZZ hC;have HBP:=ZZ hbp;have HBQ:=ZZ hbq;have HM:=ZZ hM
 rcases hle with ⟨rfl,rfl,hlt⟩|⟨rfl,rfl,hlt⟩
 all_goals
  have q0:decide ((m:Int)<(n:Int))=false:=decide_eq_false (by omega);have q0':decide (m<n)=false:=decide_eq_false (by omega)
  try have q1:decide ((n:Int)<(m:Int))=true:=decide_eq_true (by omega)
  try have q1':decide (n<m)=true:=decide_eq_true (by omega)
  clear hp hq hlp hlt hm hn hA hC hc hc2 hbp hbq hM
  go_enter Tryz.func69,Tryz.ntmps69
  go_wp2_with fail;refine(clone_q _ p HLP.out _ HP.out).mono ?_
  rintro e w3 ⟨v3,rfl,h3,k3⟩;have H3:=ZZ h3;have K3:=ZZ k3;clear h3 k3;go_wp2_with fail
  go_loopg [19] n (fun k i wr=>∃j,Hid (j+k=n)∧i=.int .i64 (j:Int)∧Hid (PlN w.heap.size wr v3 (stepL p q j))∧Hid (Ext w wr))
  case atStart=>exact⟨0,ZZ (Nat.zero_add _),rfl,ZZ (by rw [stepL_zero];exact H3.out),K3⟩
  case round=>
   obtain⟨j,HJ,rfl,HO,HE⟩:=hrel;rename World=>WR
   rcases Nat.eq_zero_or_pos gk with hz|hz
   ·subst hz
    obtain rfl:j=n:=HJ.out;have q1:decide ((j:Int)<(j:Int))=false:=decide_eq_false (Int.lt_irrefl _);go_wp2_with fail;refine(trim_q _ (stepL p q j) (by rw [stepL_len];exact HLP.out) _ HO.out.pl).mono ?_;rintro e w' ⟨v',rfl,hn,kk⟩;rw [show trimF (stepL p q j)=addF p q by rw [←addF_step p q HLE.out,HNN.out]] at hn;have HN:=ZZ hn;have HK2:=ZZ kk;clear hn kk;go_wp2_with fail;go_ret;refine⟨_,rfl,?_,al HE.out HK2.out⟩
    rcases HN.out with hn|⟨g,hg,hn⟩
    ·exact .inl hn
    ·exact .inr ⟨g,Nat.le_trans HE.out.size hg,hn⟩
   ·have hjn:j<n:=by have:=HJ.out;omega
    have hjp:j<p.length:=by have h1:=HLE.out;rw [HNN.out] at h1;omega
    have hjm:j<m:=by rw [←HMM.out];exact hjp
    have q1:decide ((j:Int)<(n:Int))=true:=decide_eq_true (by omega);have q1':decide (j<n)=true:=decide_eq_true hjn;have q4:(j:Int)<(n:Int):=by omega
    have q4':(j:Int)<(m:Int):=by omega
    have q5:(0:Int)≤(j:Int):=by omega
    rcases HCC.out with ⟨-,h5⟩|⟨b,o,rfl,ht⟩
    ·have:=HNN.out;rw [h5] at this;simp at this;omega
    rcases HO.out with ⟨-,h6⟩|⟨g,hg,hpo⟩
    ·have:=stepL_len p q j;rw [h6] at this;simp at this;omega
    have hq2:q[j]?=some (co q j):=by unfold co;rw [List.getElem?_eq_getElem (by rw [HNN.out];exact hjn)];rfl
    obtain⟨s2,A2,k2,ca2,B2,l2,cb2,c0,c1,c2,hn2⟩:=(ht j _ hq2).mono HE.out;obtain⟨cap3,cur3,e3,-⟩:=id hpo;rw [stepL_len,HMM.out] at e3;subst e3;have hp2:(stepL p q j)[j]?=some (co p j):=by rw [stepL_get p q j hjp,if_neg (Nat.lt_irrefl _)]
    have HP2:=ZZ hp2;have HG:=ZZ hg;have HZ:=ZZ hz;have HJP:=ZZ hjp;have BQ3:=ZZ (HBP.out (co p j) (List.mem_of_getElem? (show p[j]?=some (co p j) by unfold co;rw [List.getElem?_eq_getElem hjp];rfl)));have BQ2:=ZZ (HBQ.out (co q j) (List.mem_of_getElem? hq2));have N20:=ZZ (hn2.mono (ab WR (.cells #[.bool s2,.slice A2 k2 ca2,.slice B2 l2 cb2] 38)));have E6:=ZZ (ab WR (.cells #[.bool s2,.slice A2 k2 ca2,.slice B2 l2 cb2] 38));have R7:=ZZ (heap_alloc_new WR (.cells #[.bool s2,.slice A2 k2 ca2,.slice B2 l2 cb2] 38));have PO0:=ZZ hpo;clear hn2 hq2 hp2 ht hz hjn hjp hjm hpo hg
    go_upto_region 7 with (fail)
    generalize World.alloc WR (.cells #[.bool s2,.slice A2 k2 ca2,.slice B2 l2 cb2] _)=W6 at *;generalize WR.heap.size=g7 at *
    have PO:=ZZ (show ∀W,Ext W6 W→PlO W g (.slice (some ⟨g,0,none⟩) m cap3) (stepL p q j) from fun W k=>by
     obtain⟨cp,cur,e,hh,h1,h2,h3,h4⟩:=PO0.out;have kk:=al E6.out k;exact⟨cp,cur,e,(kk.block _ (lt_of_block hh)).trans hh,h1,h2,h3,fun i r hr=>(h4 i r hr).mono kk⟩)
    obtain⟨-,-,-,-,-,-,-,h4⟩:=PO.out W6 (ae _);obtain⟨s3,A3,k3,ca3,B3,l3,cb3,d0,d1,d2,hn3⟩:=h4 j _ HP2.out;have N3:=ZZ hn3;have N2:=N20
    have HC:=ZZ (show ∀W,Ext W6 W→W.cell? ⟨g,j*3,none⟩=some (.bool s3)∧W.cell? ⟨g,j*3+1,none⟩=some (.slice A3 k3 ca3)∧W.cell? ⟨g,j*3+2,none⟩=some (.slice B3 l3 cb3)∧W.cell? ⟨g7,0,none⟩=some (.bool s2)∧W.cell? ⟨g7,1,none⟩=some (.slice A2 k2 ca2)∧W.cell? ⟨g7,2,none⟩=some (.slice B2 l2 cb2) from fun W k=>by
     obtain⟨y0,y1,y2,-⟩:=aj ((k.block _ (lt_of_block R7.out)).trans R7.out);exact⟨ao k d0,ao k d1,ao k d2,y0,y1,y2⟩)
    clear c0 c1 c2 d0 d1 d2 hn3 h4;have hun:undef=.tuple #[]:=rfl;refine wp_region_noPanic ?_;refine region_L (S:=fun W=>W.cell? ⟨g,j*3,none⟩=some (.bool s3)∧W.cell? ⟨g,j*3+1,none⟩=some (.slice A3 k3 ca3)∧W.cell? ⟨g,j*3+2,none⟩=some (.slice B3 l3 cb3)∧W.cell? ⟨g7,0,none⟩=some (.bool s2)∧W.cell? ⟨g7,1,none⟩=some (.slice A2 k2 ca2)∧W.cell? ⟨g7,2,none⟩=some (.slice B2 l2 cb2)) 9 (by kernel_rfl) (HC.out _ (ac _)) (fun hHeld=>?_);refine take_b 0 24 ?_;refine take_b 1 25 ?_;refine take_b 2 26 ?_;refine take_b 3 27 ?_;refine take_b 4 28 ?_;refine take_b 5 29 ?_;refine take_b 6 30 ?_;refine call_L (i:=7) 31 rfl rfl (by kernel_rfl) (fun K hK=>?_)
    go_simp
    go_at_call 21
    refine(add_q M HM.out _ _ (co p j) (co q j) _ (N3.out.mono (ac _)) (N2.out.mono (ac _)) BQ3.out BQ2.out).mono ?_;rintro e w5 ⟨v5,rfl,h5,kk5⟩;obtain⟨s5,A5,k5,ca5,B5,l5,cb5,rfl⟩:=h5.form2;have H5:=ZZ h5;have hx2:=ZZ (show Ext W6 w5 from al (ac _) kk5);clear h5 kk5
    try go_wp2_with fail
    refine hK.out _ _ (HC.out _ hx2.out) (fun hHeld=>?_);clear hK K
    try simp only [Act.put,lyA,lyB,lyC]
    refine take_b 8 32 ?_;refine last_L rfl (by kernel_rfl) (by kernel_rfl) (fun K hK=>?_);have hp5:=PO.out w5 hx2.out;obtain⟨-,cur5,-,hh5,-⟩:=id hp5;have zf0:=frozen_row hh5 (j*3);have zf1:=frozen_row hh5 (j*3+1);have zf2:=frozen_row hh5 (j*3+2);obtain⟨z0,z1,z2,-⟩:=HC.out w5 hx2.out;clear hp5 hh5
    go_simp
    refine hK.out _ _ ?_;clear hK K
    try simp only [Act.put,lyA,lyB,lyC]
    refine NoPanic.normal ?_;have HP7:=ZZ (PlO.set (PO.out w5 hx2.out) (by rw [stepL_len];exact HJP.out) H5.out);have E7:=ZZ (show Ext w (put3at w5 g (j*3) (.bool s5) (.slice A5 k5 ca5) (.slice B5 l5 cb5)) from (((al HE.out (al E6.out hx2.out)).setCell HG.out _).setCell HG.out _).setCell HG.out _);go_wp2_with fail
    go_roundg (gk - 1)
    case measure=>have:=HZ.out;omega
    case rel=>
     refine⟨j+1,ZZ (by have:=HJ.out;have:=HZ.out;omega),by have h1:=HLP.out;have h2:=HJP.out;rw [IntWalk.wrap64_in _ ⟨by omega,by omega⟩];rfl,ZZ ?_,E7⟩;have h8:=HP7.out;rw [stepL_succ p q HJP.out] at h8;exact .inr ⟨g,HG.out,h8⟩
theorem add_p (M:Nat) (hM:M≤1099511627776) (vp vq:Value) (p q:List Rat) (hlp:p.length≤1000000) (hlq:q.length≤1000000) (w:World) (hp:Pl w vp p) (hq:Pl w vq q) (hbp:∀x ∈ p,Bq M x) (hbq:∀x ∈ q,Bq M x):Calls Tryz.prog 69 #[vp,vq] w fun e w'=>∃v',e=.returned v'∧PlN w.heap.size w' v' (addF p q)∧Ext w w':=by
 rcases Nat.lt_or_ge p.length q.length with h|h
 ·rw [addF_comm]
  exact add_lg M hM vq vp q p hlq vp vq (.inr ⟨rfl,rfl,h⟩) w hq hp hbq hbp
 ·exact add_lg M hM vp vq p q hlp vp vq (.inl ⟨rfl,rfl,h⟩) w hp hq hbp hbq
theorem trim_mem {p:List Rat} {x:Rat} (h:x ∈ trimF p):x ∈ p:=by
 induction p with
 | nil=>exact h
 | cons a p ih=>
  have e:trimF (a :: p)=if trimF p=[] then (if a=0 then [] else [a]) else a :: trimF p:=rfl;rw [e] at h
  split at h
  ·split at h
   ·cases h
   ·rw [List.mem_singleton.1 h];exact List.mem_cons_self ..
  ·rcases List.mem_cons.1 h with h|h
   ·rw [h];exact List.mem_cons_self ..
   ·exact List.mem_cons_of_mem _ (ih h)
theorem bq_scale {M K:Nat} {p:List Rat} {x:Rat} (h:∀q ∈ p,Bq M q) (hx:Bq K x):∀q ∈ scaleF p x,Bq (M+K) q:=by
 intro q hq;obtain⟨r,hr,rfl⟩:=List.mem_map.1 (trim_mem hq);exact(h r hr).mul hx
def subF (p q:List Rat):List Rat:=addF p (scaleF q (-1))
theorem sub_p (M:Nat) (hM:M≤1099511627000) (vp vq:Value) (p q:List Rat) (hlp:p.length≤1000000) (hlq:q.length≤1000000) (w:World) (hp:Pl w vp p) (hq:Pl w vq q) (hbp:∀x ∈ p,Bq M x) (hbq:∀x ∈ q,Bq M x):Calls Tryz.prog 70 #[vp,vq] w fun e w'=>∃v',e=.returned v'∧PlN w.heap.size w' v' (subF p q)∧Ext w w':=by
 have HP:=ZZ hp;have HQ:=ZZ hq;have HLP:=ZZ hlp;have HLQ:=ZZ hlq;have HBP:=ZZ hbp;have HBQ:=ZZ hbq;have HM:=ZZ hM;clear hp hq hlp hlq hbp hbq hM
 go_enter Tryz.func70,Tryz.ntmps70
 go_wp2_with fail;refine(int_q (-1) (by decide) (by decide) w).mono ?_
 rintro e w3 ⟨v3,rfl,h3,k3⟩;have H3:=ZZ (show Nm w3 v3 (-1) from h3);have K3:=ZZ k3;clear h3 k3;go_wp2_with fail;have BN:=ZZ (show Bq 64 (-1:Rat) from bq_int (-1) (by decide) (by decide));refine(scale_q (M+64) (by have:=HM.out;omega) _ _ q (-1) HLQ.out _ (HQ.out.mono K3.out) H3.out (fun x hx=>(HBQ.out x hx).mono (by omega)) (BN.out.mono (by omega))).mono ?_;rintro e w5 ⟨v5,rfl,h5,k5⟩;have H5:=ZZ h5.pl;have K5:=ZZ (al K3.out k5);clear h5 k5;go_wp2_with fail;refine(add_p (M+64) (by have:=HM.out;omega) _ _ p (scaleF q (-1)) HLP.out (Nat.le_trans (trim_le _) (by rw [List.length_map];exact HLQ.out)) _ (HP.out.mono K5.out) H5.out (fun x hx=>(HBP.out x hx).mono (by omega)) (bq_scale HBQ.out BN.out)).mono ?_;rintro e w6 ⟨v6,rfl,h6,k6⟩;have H6:=ZZ h6;have K6:=ZZ k6;clear h6 k6;go_wp2_with fail;go_ret;refine⟨_,rfl,?_,al K5.out K6.out⟩
 rcases H6.out with hn|⟨g,hg,hn⟩
 ·exact .inl hn
 ·exact .inr ⟨g,Nat.le_trans K5.out.size hg,hn⟩
theorem up_c (va:Value) (n k:Nat) (w:World) (ha:Wd w va n) (sa:Sm n) (hk:k≤70368744177664):Calls Tryz.prog 117 #[va,.int .i64 k] w fun e w'=>∃v,e=.returned v∧Wd w' v (n*2 ^ k)∧Ext w w':=by
 refine(up_r va n k w ha sa hk).mono ?_;rintro e w' ⟨⟨r,rfl,h1,h2,h3,h4⟩,h5⟩;exact⟨_,rfl,by rw [←h4];exact cut_w h2 h3.cl (by omega),h5⟩
def shQ (x:Rat) (k:Int):Rat:=if k<0 then rat (decide (x.num<0)) x.num.natAbs (x.den*2 ^ k.natAbs) else rat (decide (x.num<0)) (x.num.natAbs*2 ^ k.natAbs) x.den
theorem lt_shift {n B k:Nat} (h:n<2 ^ B):n*2 ^ k<2 ^ (B+k):=by
 rw [Nat.pow_add];exact Nat.mul_lt_mul_of_pos_right h (Nat.pow_pos (by decide))
theorem Bq.sh {B:Nat} {x:Rat} {k:Int} (h:Bq B x):Bq (B+k.natAbs) (shQ x k):=by
 unfold shQ;have hp:0<x.den:=x.den_pos
 split
 ·exact bq_rat (lt_mono h.1 (by omega)) (lt_shift h.2) (Nat.ne_of_gt (Nat.mul_pos hp (Nat.pow_pos (by decide))))
 ·exact bq_rat (lt_shift h.1) (lt_mono h.2 (by omega)) (Nat.ne_of_gt hp)
theorem shifted_up (M:Nat) (hM:M≤1099511627776) (j:Nat) (hj:j≤1099511627776) (vx:Value) (x:Rat) (w:World) (hx:Nm w vx x) (bx:Bq M x):Calls Tryz.prog 87 #[vx,.int .i64 j] w fun e w'=>∃v,e=.returned v∧Nm w' v (shQ x j)∧Ext w w':=by
 have S1:=ZZ (sm_of_lt bx.1 (by omega));have S2:=ZZ (sm_of_lt bx.2 (by omega));have S3:=ZZ (sm_of_lt (lt_shift (k:=j) bx.1) (by omega));have D0:=ZZ x.den_pos;have HJ:=ZZ hj;have q1:(0:Int)≤(j:Int):=by omega
 have q2:¬(j:Int)<0:=by omega
 clear hj bx hM;obtain⟨A,k,ca,B,l,cb,rfl,hxn,hxd,hkx,hlx⟩:=hx.form;have Hx:=ZZ hx;have Hxn:=ZZ hxn;have Hkx:=ZZ hkx;have Hlx:=ZZ hlx;clear hx hxn hxd hkx hlx;generalize hbx:decide (x.num<0)=b1 at *;have Hbx:=ZZ hbx;clear hbx;obtain⟨hS,hZ,hw1,hw2,hsz,hsz1⟩:=setup1 w (.bool b1) (.slice A k ca) (.slice B l cb);have HS:=ZZ hS;have HZ:=ZZ hZ;have HW1:=ZZ hw1;have HW2:=ZZ hw2;have Hsz1:=ZZ hsz1;clear hS hZ hw1 hw2 hsz hsz1
 go_enter Tryz.func87,Tryz.ntmps87
 go_wp2_with fail;generalize World.alloc (World.alloc w (.cells #[.bool b1,.slice A k ca,.slice B l cb] _)) _=W2 at *
 generalize World.alloc w (.cells #[.bool b1,.slice A k ca,.slice B l cb] _)=W1 at *;generalize hg0:w.heap.size=g0 at *;have Hsz:=ZZ (show w.heap.size≤g0+1 by omega);clear hg0;have hww:=ZZ (al HW1.out HW2.out);have hx0:=ZZ (ae W2);have hS0:=HS.out _ (al HW2.out hx0.out);have e1:=ZZ (ac W2);have hx1:=ZZ (al hx0.out e1.out)
 go_region_held3 (fun W=>W.cell? ⟨g0,0,none⟩=some (.bool b1)∧W.cell? ⟨g0,1,none⟩=some (.slice A k ca)∧W.cell? ⟨g0,2,none⟩=some (.slice B l cb))
  (first
   | exact HS.out _ (am (al HW2.out hx4.out) Hsz1.out _ _ _)
   | exact HS.out _ (al HW2.out hx4.out)
   | exact HS.out _ (al HW2.out hx3.out)
   | exact HS.out _ (al HW2.out hx2.out)
   | exact HS.out _ (al HW2.out hx1.out))
  (first
   |(have _q:=hx3
     go_at_call 40
     refine(reduced_c _ _ _ _ _ _ (H2.out.mono e3.out) H3.out S3.out S2.out D0.out).mono ?_;clear _q;rintro e w3 ⟨vv,rfl,h4,k4⟩;obtain⟨b3,P3,p3,c3,Q3,q3,d3,rfl⟩:=h4.form2;have H4:=ZZ h4;clear h4;have e4:=ZZ k4;have hx4:=ZZ (al hx3.out k4);clear k4;have hz:=HZ.out _ hx4.out;obtain⟨z0,z1,z2,f0,f1,f2⟩:=aj hz;have Hz:=ZZ hz;clear hz)
   |(have _q:=hx2
     go_at_call 63
     refine(under_c _ _ _ (Hx.out.mono (al hww.out hx2.out))).mono ?_;clear _q;rintro e w2 ⟨vv,rfl,h3,k3⟩;obtain⟨P2,p2,c2,rfl⟩:=h3.form';have H3:=ZZ h3;clear h3;have e3:=ZZ k3;have hx3:=ZZ (al hx2.out k3);clear k3)
   |(have _q:=hx1
     go_at_call 117
     refine(up_c _ _ _ _ (Hxn.out.mono (al hww.out hx1.out)) S1.out (Nat.le_trans HJ.out (by decide))).mono ?_;clear _q;rintro e w1 ⟨vv,rfl,h2,k2⟩;obtain⟨P1,p1,c1,rfl⟩:=h2.form';have H2:=ZZ h2;clear h2;have e2:=ZZ k2;have hx2:=ZZ (al hx1.out k2);clear k2))
 go_wp2_with fail;refine bodyPost_ret (v:=.agg #[.bool b3,.slice P3 p3 c3,.slice Q3 q3 d3]) (by simp [results,Tryz.f87];go_simp) rfl ?_
 refine⟨_,rfl,?_,am (al hww.out hx4.out) Hsz.out _ _ _⟩
 have hr:rat b1 (x.num.natAbs*2 ^ j) x.den=shQ x (j:Int):=by
  unfold shQ;rw [if_neg (by omega),Hbx.out];rfl
 rw [←hr];exact H4.out.put3 Hz.out
theorem shifted_down (M:Nat) (hM:M≤1099511627776) (j:Nat) (h0:0<j) (hj:j≤1099511627776) (vx:Value) (x:Rat) (w:World) (hx:Nm w vx x) (bx:Bq M x):Calls Tryz.prog 87 #[vx,.int .i64 (-(j:Int))] w fun e w'=>∃v,e=.returned v∧Nm w' v (shQ x (-(j:Int)))∧Ext w w':=by
 have S1:=ZZ (sm_of_lt bx.1 (by omega));have S2:=ZZ (sm_of_lt bx.2 (by omega));have S3:=ZZ (sm_of_lt (lt_shift (k:=j) bx.2) (by omega));have D0:=ZZ (Nat.mul_pos x.den_pos (Nat.pow_pos (n:=j) (show 0<2 by decide)));have HJ:=ZZ hj;have HP:=ZZ h0;have q2:-(j:Int)<0:=by omega
 have q3:decide (-(j:Int)<0)=true:=by rw [decide_eq_true_eq];omega
 have q4:IntKind.i64.wrap (j:Int)=(j:Int):=IntWalk.i64_in _ (by omega);have q5:IntKind.i64.wrap (- -(j:Int))=(j:Int):=IntWalk.i64_in _ (by omega) |>.trans (by omega)
 clear hj bx hM h0;obtain⟨A,k,ca,B,l,cb,rfl,hxn,hxd,hkx,hlx⟩:=hx.form;have Hx:=ZZ hx;have Hxn:=ZZ hxn;have Hkx:=ZZ hkx;have Hlx:=ZZ hlx;clear hx hxn hxd hkx hlx;generalize hbx:decide (x.num<0)=b1 at *;have Hbx:=ZZ hbx;clear hbx;obtain⟨hS,hZ,hw1,hw2,hsz,hsz1⟩:=setup1 w (.bool b1) (.slice A k ca) (.slice B l cb);have HS:=ZZ hS;have HZ:=ZZ hZ;have HW1:=ZZ hw1;have HW2:=ZZ hw2;have Hsz1:=ZZ hsz1;clear hS hZ hw1 hw2 hsz hsz1
 go_enter Tryz.func87,Tryz.ntmps87
 go_wp2_with fail;generalize World.alloc (World.alloc w (.cells #[.bool b1,.slice A k ca,.slice B l cb] _)) _=W2 at *
 generalize World.alloc w (.cells #[.bool b1,.slice A k ca,.slice B l cb] _)=W1 at *;generalize hg0:w.heap.size=g0 at *;have Hsz:=ZZ (show w.heap.size≤g0+1 by omega);clear hg0;have hww:=ZZ (al HW1.out HW2.out);have hx0:=ZZ (ae W2);have hS0:=HS.out _ (al HW2.out hx0.out);have e1:=ZZ (ac W2);have hx1:=ZZ (al hx0.out e1.out)
 go_region_held3 (fun W=>W.cell? ⟨g0,0,none⟩=some (.bool b1)∧W.cell? ⟨g0,1,none⟩=some (.slice A k ca)∧W.cell? ⟨g0,2,none⟩=some (.slice B l cb))
  (first
   | exact HS.out _ (am (al HW2.out hx4.out) Hsz1.out _ _ _)
   | exact HS.out _ (al HW2.out hx4.out)
   | exact HS.out _ (al HW2.out hx3.out)
   | exact HS.out _ (al HW2.out hx2.out)
   | exact HS.out _ (al HW2.out hx1.out))
  (first
   |(have _q:=hx3
     go_at_call 40
     refine(reduced_c _ _ _ _ _ _ (Hxn.out.mono (al hww.out hx3.out)) H3.out S1.out S3.out D0.out).mono ?_;clear _q;rintro e w3 ⟨vv,rfl,h4,k4⟩;obtain⟨b3,P3,p3,c3,Q3,q3,d3,rfl⟩:=h4.form2;have H4:=ZZ h4;clear h4;have e4:=ZZ k4;have hx4:=ZZ (al hx3.out k4);clear k4;have hz:=HZ.out _ hx4.out;obtain⟨z0,z1,z2,f0,f1,f2⟩:=aj hz;have Hz:=ZZ hz;clear hz)
   |(have _q:=hx2
     go_at_call 117
     refine(up_c _ _ _ _ H2.out S2.out (Nat.le_trans HJ.out (by decide))).mono ?_;clear _q;rintro e w2 ⟨vv,rfl,h3,k3⟩;obtain⟨P2,p2,c2,rfl⟩:=h3.form';have H3:=ZZ h3;clear h3;have e3:=ZZ k3;have hx3:=ZZ (al hx2.out k3);clear k3)
   |(have _q:=hx1
     go_at_call 63
     refine(under_c _ _ _ (Hx.out.mono (al hww.out hx1.out))).mono ?_;clear _q;rintro e w1 ⟨vv,rfl,h2,k2⟩;obtain⟨P1,p1,c1,rfl⟩:=h2.form';have H2:=ZZ h2;clear h2;have e2:=ZZ k2;have hx2:=ZZ (al hx1.out k2);clear k2))
 go_wp2_with fail;refine bodyPost_ret (v:=.agg #[.bool b3,.slice P3 p3 c3,.slice Q3 q3 d3]) (by simp [results,Tryz.f87];go_simp) rfl ?_
 refine⟨_,rfl,?_,am (al hww.out hx4.out) Hsz.out _ _ _⟩
 have hr:rat b1 x.num.natAbs (x.den*2 ^ j)=shQ x (-(j:Int)):=by
  unfold shQ;rw [if_pos (by have:=HP.out;omega),Hbx.out,Int.natAbs_neg];rfl
 rw [←hr];exact H4.out.put3 Hz.out
theorem shifted_q (M:Nat) (hM:M≤1099511627776) (z:Int) (hz:z.natAbs≤1099511627776) (vx:Value) (x:Rat) (w:World) (hx:Nm w vx x) (bx:Bq M x):Calls Tryz.prog 87 #[vx,.int .i64 z] w fun e w'=>∃v,e=.returned v∧Nm w' v (shQ x z)∧Ext w w':=by
 rcases(show z<0∨0≤z by omega) with h|h
 ·obtain⟨k,rfl⟩:∃k:Nat,z = -(k:Int):=⟨z.natAbs,by omega⟩
  exact shifted_down M hM k (by omega) (by omega) vx x w hx bx
 ·obtain⟨k,rfl⟩:∃k:Nat,z=(k:Int):=⟨z.toNat,by omega⟩
  exact shifted_up M hM k (by omega) vx x w hx bx
end Go.Proofs.YtkoaakefgacokaaGreatDoor
