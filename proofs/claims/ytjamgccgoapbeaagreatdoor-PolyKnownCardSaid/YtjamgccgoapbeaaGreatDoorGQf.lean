/- Multiples of polynomials. Plain laws of decimal numerals. -/
import Derived.Test.YtjamgccgoapbeaaGreatDoorGQe
import Derived.Test.YtjamgccgoapbeaaGreatDoorGWj
import Derived.Lib.ItoaNum
set_option linter.unusedVariables false
set_option maxRecDepth 100000
set_option maxHeartbeats 64000000
namespace Go.Proofs.YtjamgccgoapbeaaGreatDoor
open Go.RowKit
theorem cells3_new (w:World) (a b c:Value) (T:TypeId):∀(j:Nat) (u:Value),[a,b,c][j]?=some u→(w.alloc (.cells #[a,b,c] T)).cell? ((⟨w.heap.size,0,none⟩:Addr).add j)=some u:=by
 intro j u hu;have h:=heap_alloc_new w (.cells #[a,b,c] T)
 have hc:(w.alloc (.cells #[a,b,c] T)).cell? ⟨w.heap.size,j,none⟩=some u:=by
  rw [cell_of_row _ _ j _ _ _ h];simpa using hu
 by_cases h0:j=0
 ·subst h0;exact hc
 ·simpa [Addr.add,h0] using hc
theorem OwnR.lt {w:World} {B:Nat} {v:Value} {n:Nat} {xs:List Value} (h:OwnR w B v n xs):∀k,v.ownBlock=some k→B≤k∧k<w.heap.size:=by
 intro k hk;obtain⟨-,h2⟩:=h
 rcases h2 with ⟨rfl,-⟩|⟨g,cap,cur,rfl,hb,hh,-⟩
 ·cases hk
 ·obtain rfl:g=k:=Option.some.inj hk
  exact⟨hb,lt_of_block hh⟩
theorem OwnR.mono {w w':World} {B:Nat} {v:Value} {n:Nat} {xs:List Value} (h:OwnR w B v n xs) (k:Ext w w'):OwnR w' B v n xs:=by
 obtain⟨h1,h2⟩:=h;refine⟨h1,?_⟩
 rcases h2 with h2|⟨g,cap,cur,e,hb,hh,hr⟩
 ·exact .inl h2
 ·exact .inr ⟨g,cap,cur,e,hb,(k.block _ (lt_of_block hh)).trans hh,hr⟩
theorem OwnP.mono {w w':World} {B:Nat} {v:Value} {l:List Rat} (h:OwnP w B v l) (k:Ext w w'):OwnP w' B v l:=by
 obtain⟨xs,h1,h2⟩:=h;refine⟨xs,h1.mono k,fun i q hq=>?_⟩;obtain⟨s,A,n,ca,C,m,cb,x0,x1,x2,hn⟩:=h2 i q hq;exact⟨s,A,n,ca,C,m,cb,x0,x1,x2,hn.mono k⟩
theorem ext_grown1 {w0 w w':World} {u:Value} {n:Nat} {xs:List Value} (h:Ext w0 w) (hown:OwnR w w0.heap.size u n xs) (hg:w.grownBy w' u.ownBlock):Ext w0 w':=
 Below.grown h hg h.size (fun k hk=>(hown.lt k hk).1)
def scaleF (p:List Rat) (x:Rat):List Rat:=trimF (p.map (·*x))
theorem scale_q (M:Nat) (hM:M≤1099511627776) (v vx:Value) (l:List Rat) (x:Rat) (hl:l.length≤1000000) (w:World) (h:Pl w v l) (hx:Nm w vx x) (hb:∀q ∈ l,Bq M q) (bx:Bq M x):Calls Tryz.prog 34 #[v,vx] w fun e w'=>∃v',e=.returned v'∧PlN w.heap.size w' v' (scaleF l x)∧Ext w w':=by
 obtain⟨s1,A1,k1,ca1,B1,l1,cb1,rfl⟩:=hx.form2;obtain⟨A,cap,rfl,hc,hA⟩:=id h;obtain⟨n,hn⟩:∃n,l.length=n:=⟨_,rfl⟩;rw [hn];have HNL:=ZZ hn;have HP:=ZZ h;have HX:=ZZ hx;have HL:=ZZ hl;have HB:=ZZ hb;have BX:=ZZ bx;have HM:=ZZ hM;have HA:=ZZ hA;have E0:=ZZ (ab w (.cells #[.bool s1,.slice A1 k1 ca1,.slice B1 l1 cb1] 35));have RX:=ZZ (heap_alloc_new w (.cells #[.bool s1,.slice A1 k1 ca1,.slice B1 l1 cb1] 35));clear h hx hl hb bx hM hA hc hn
 go_enter Tryz.func34,Tryz.ntmps34
 go_upto_region 1 with (fail)
 generalize World.alloc w (.cells #[.bool s1,.slice A1 k1 ca1,.slice B1 l1 cb1] _)=W1 at *;generalize hgx:w.heap.size=gx at *;have HG:=ZZ hgx;clear hgx;go_wp2_with fail
 go_loopg [10,5] n (fun k i u wr=>∃j,Hid (j+k=n)∧i=.int .i64 (j:Int)∧Hid (OwnP wr W1.heap.size u ((l.take j).map (·*x)))∧Hid (Ext W1 wr))
 case atStart=>exact⟨0,ZZ (Nat.zero_add _),rfl,ZZ (OwnP.nil _ _),ZZ (ae _)⟩
 case round=>
  obtain⟨j,HJ,rfl,HO,HE⟩:=hrel;rename World=>WR;rename Value=>u
  rcases Nat.eq_zero_or_pos gk with hz|hz
  ·subst hz
   obtain rfl:j=n:=HJ.out;have q1:decide ((j:Int)<(j:Int))=false:=decide_eq_false (Int.lt_irrefl _);go_wp2_with fail;refine(trim_q _ ((l.take j).map (·*x)) (by have:=HL.out;simp;omega) _ HO.out.pl).mono ?_;rintro e w' ⟨v',rfl,hn,kk⟩;rw [show trimF ((l.take j).map (·*x))=scaleF l x by rw [List.take_of_length_le (Nat.le_of_eq HNL.out)];rfl] at hn;have HN:=ZZ hn;have HK2:=ZZ kk;clear hn kk;go_wp2_with fail;go_ret;refine⟨_,rfl,?_,ak E0.out (ak HE.out HK2.out)⟩
   rcases HN.out with hn|⟨g,hg,hn⟩
   ·exact .inl hn
   ·refine .inr ⟨g,Nat.le_trans ?_ hg,hn⟩
    exact(ak E0.out HE.out).size
  ·have hjn:j<n:=by have:=HJ.out;omega
   have q1:decide ((j:Int)<(n:Int))=true:=decide_eq_true (by omega);have q4:(j:Int)<(n:Int):=by omega
   have q5:(0:Int)≤(j:Int):=by omega
   rcases HA.out with ⟨-,h5⟩|⟨b,o,rfl,ht⟩
   ·have:=HNL.out;rw [h5] at this;simp at this;omega
   obtain⟨q,hq⟩:∃q,l[j]?=some q:=⟨l[j]'(by rw [HNL.out];exact hjn),List.getElem?_eq_getElem _⟩;have EW:=ZZ (ak E0.out HE.out);obtain⟨s2,A2,k2,ca2,B2,l2,cb2,c0,c1,c2,hcn⟩:=(ht j q hq).mono EW.out;have HQ:=ZZ hq;have HCN:=ZZ hcn;have HZ:=ZZ hz;have HJN:=ZZ hjn;have BQ:=ZZ (HB.out q (List.mem_of_getElem? hq));obtain⟨x0,x1,x2,-⟩:=aj (((ak HE.out (ab WR (.cells #[.bool s2,.slice A2 k2 ca2,.slice B2 l2 cb2] 35))).block _ (lt_of_block RX.out)).trans RX.out);clear hq hcn ht hz hjn;go_wp2_with fail;refine(mul_q M HM.out _ _ q x _ (HCN.out.mono (ab _ _)) (HX.out.mono (ak EW.out (ab _ _))) BQ.out BX.out).mono ?_;rintro e w5 ⟨v5,rfl,h5,k5⟩;obtain⟨s5,A5,k5',ca5,B5,l5,cb5,rfl⟩:=h5.form2;have E6:=ZZ (show Ext WR (w5.alloc (.cells #[.bool s5,.slice A5 k5' ca5,.slice B5 l5 cb5] 35)) from ak (ab WR (.cells #[.bool s2,.slice A2 k2 ca2,.slice B2 l2 cb2] 35)) (ak k5 (ab _ _)));have H5:=ZZ (h5.mono (ab w5 (.cells #[.bool s5,.slice A5 k5' ca5,.slice B5 l5 cb5] 35)));obtain⟨xs,hown,hxs⟩:=HO.out.mono E6.out;have HXS:=ZZ hxs;have HOWN:=ZZ hown;have LT:=ZZ (show ((l.take j).map (·*x)).length=j by have h1:=HNL.out;have h2:=HJN.out;simp;omega);have C3:=ZZ (cells3_new w5 (.bool s5) (.slice A5 k5' ca5) (.slice B5 l5 cb5) 35);clear c0 c1 c2 x0 x1 x2 h5 k5 hown hxs
   go_wp2_with (at_builtin;refine wpList_append1 rfl _ _ rfl W1.heap.size _ ((l.take j).map (·*x)).length xs rfl HOWN.out ⟨w5.heap.size,0,none⟩ _ [.bool s5,.slice A5 k5' ca5,.slice B5 l5 cb5] rfl rfl C3.out (by intro u hu;simp at hu;rcases hu with rfl|rfl|rfl <;> rfl) (by intro u hu z he;subst he;simp at hu) (by have h1:=LT.out;have h2:=HL.out;have h3:=HNL.out;have h4:=HJN.out;omega) (ak HE.out E6.out).size ?_;intro v' w7 hown7 hgrow)
   have HP7:=ZZ (OwnP.snoc HOWN.out HXS.out H5.out hgrow hown7);have E7:=ZZ (ext_grown1 (ak HE.out E6.out) HOWN.out hgrow);clear hown7 hgrow;go_wp2_with fail
   go_roundg (gk - 1)
   case measure=>have:=HZ.out;omega
   case rel=>
    refine⟨j+1,ZZ (by have:=HJ.out;have:=HZ.out;omega),by have h1:=HL.out;have h2:=HNL.out;have h3:=HJN.out;rw [IntWalk.wrap64_in _ ⟨by omega,by omega⟩];rfl,ZZ ?_,ZZ E7.out⟩;rw [List.take_add_one,HQ.out,Option.toList_some,List.map_append];exact HP7.out
end Go.Proofs.YtjamgccgoapbeaaGreatDoor
set_option linter.unusedVariables false
set_option maxRecDepth 100000
set_option maxHeartbeats 64000000
namespace Go.Proofs.YtjamgccgoapbeaaGreatDoor
open Go.RowKit Go.Lib
def natOf (l:List UInt8):Nat:=l.foldl (fun n c=>10*n+(c.toNat - 48)) 0
def isDig (c:UInt8):Bool:=decide (48≤c.toNat) && decide (c.toNat≤57)
theorem isDig_iff (c:UInt8):isDig c=true↔48≤c.toNat∧c.toNat≤57:=by
 unfold isDig;simp
theorem natOf_nil:natOf []=0:=rfl
theorem natOf_snoc (l:List UInt8) (c:UInt8):natOf (l ++ [c])=10*natOf l+(c.toNat - 48):=by
 simp [natOf,List.foldl_append]
theorem natOf_acc (l:List UInt8) (a:Nat):l.foldl (fun n c=>10*n+(c.toNat - 48)) a=a*10 ^ l.length+natOf l:=by
 induction l generalizing a with
 | nil=>simp [natOf]
 | cons c l ih=>
  unfold natOf
  simp only [List.foldl_cons,List.length_cons]
  rw [ih,ih (10*0+(c.toNat - 48)),Nat.pow_succ,Nat.mul_zero,Nat.zero_add,Nat.add_mul]
  have:10*a*10 ^ l.length=a*(10 ^ l.length*10):=by rw [Nat.mul_comm 10 a,Nat.mul_assoc,Nat.mul_comm 10]
  omega
theorem natOf_append (l m:List UInt8):natOf (l ++ m)=natOf l*10 ^ m.length+natOf m:=by
 unfold natOf;rw [List.foldl_append];exact natOf_acc m _
theorem natOf_cons (c:UInt8) (l:List UInt8):natOf (c :: l)=(c.toNat - 48)*10 ^ l.length+natOf l:=by
 have:=natOf_append [c] l
 rw [List.singleton_append] at this;rw [this];simp [natOf]
theorem dchar (d:Nat) (h:d<10):(UInt8.ofNat (48+d)).toNat=48+d:=by
 rw [UInt8.toNat_ofNat'];exact Nat.mod_eq_of_lt (by omega)
theorem chard (c:UInt8) (h:isDig c=true):UInt8.ofNat (48+(c.toNat - 48))=c:=by
 have h2:=(isDig_iff c).1 h
 apply UInt8.toNat_inj.1
 rw [dchar _ (by omega)];omega
theorem natOf_dec (n:Nat):natOf (decDigits n)=n:=by
 induction n using Nat.strongRecOn with
 | _ n ih=>
  by_cases h:n<10
  ·rw [decDigits,dif_pos h];(simp [natOf];omega)
  ·rw [decDigits,dif_neg h,natOf_snoc,ih _ (by omega),dchar _ (by omega)];omega
theorem dec_ne_nil (n:Nat):decDigits n≠[]:=by
 rw [decDigits];split <;> simp
theorem dec_isDig (n:Nat):∀c ∈ decDigits n,isDig c=true:=by
 induction n using Nat.strongRecOn with
 | _ n ih=>
  intro c hc
  by_cases h:n<10
  ·rw [decDigits,dif_pos h] at hc
   simp only [List.mem_singleton] at hc
   rw [hc,isDig_iff,dchar _ h];omega
  ·rw [decDigits,dif_neg h] at hc
   rcases List.mem_append.1 hc with hc|hc
   ·exact ih _ (by omega) c hc
   ·simp only [List.mem_singleton] at hc
    rw [hc,isDig_iff,dchar _ (by omega)];omega
theorem natOf_pos (l:List UInt8) (h:∀c ∈ l,isDig c=true) (h0:l≠[]) (h1:l.head?≠some 48):0<natOf l:=by
 cases l with
 | nil=>exact absurd rfl h0
 | cons c l=>
  rw [natOf_cons];have h2:=(isDig_iff c).1 (h c (List.mem_cons_self ..))
  have h3:c.toNat≠48:=fun e=>h1 (by
   rw [List.head?_cons];congr 1;apply UInt8.toNat_inj.1;rw [e];rfl)
  have h4:0<10 ^ l.length:=Nat.pow_pos (by decide);have h5:1*10 ^ l.length≤(c.toNat - 48)*10 ^ l.length:=Nat.mul_le_mul_right _ (by omega);omega
theorem dec_natOf (l:List UInt8) (h:∀c ∈ l,isDig c=true) (h0:l≠[]) (h1:l.head?≠some 48∨l.length=1):decDigits (natOf l)=l:=by
 obtain⟨k,hk⟩:∃k,l.length=k:=⟨_,rfl⟩
 induction k using Nat.strongRecOn generalizing l with
 | _ k ih=>
  have hs:=List.dropLast_concat_getLast h0;obtain⟨m,hm⟩:∃m,l.dropLast=m:=⟨_,rfl⟩;obtain⟨c,hc⟩:∃c,l.getLast h0=c:=⟨_,rfl⟩;rw [hm,hc] at hs;subst hs;have hcd:=h c (by simp);have h2:=(isDig_iff c).1 hcd;rw [natOf_snoc]
  by_cases hmn:m=[]
  ·subst hmn
   rw [natOf_nil,decDigits,dif_pos (by omega)]
   simp only [Nat.mul_zero,Nat.zero_add,List.nil_append]
   rw [chard c hcd]
  ·have h3:(m ++ [c]).head?=m.head?:=by
    cases m with
    | nil=>exact absurd rfl hmn
    | cons a m=>rfl
   have hml:0<m.length:=List.length_pos_iff.2 hmn
   have h4:m.head?≠some 48:=by
    rcases h1 with h1|h1
    ·rw [←h3];exact h1
    ·simp at h1;exact absurd h1 hmn
   have hd:∀x ∈ m,isDig x=true:=fun x hx=>h x (by simp [hx]);have h5:=natOf_pos m hd hmn h4;rw [decDigits,dif_neg (by omega)];have e1:(10*natOf m+(c.toNat - 48)) / 10=natOf m:=by omega
   have e2:(10*natOf m+(c.toNat - 48)) % 10=c.toNat - 48:=by omega
   rw [e1,e2,chard c hcd];have hk':m.length<k:=by simp at hk;omega
   rw [ih m.length hk' m hd hmn (Or.inl h4) rfl]
theorem dec_head (n:Nat) (h:n≠0):(decDigits n).head?≠some 48:=by
 induction n using Nat.strongRecOn with
 | _ n ih=>
  by_cases hl:n<10
  ·rw [decDigits,dif_pos hl,List.head?_cons]
   intro e
   have:=congrArg UInt8.toNat (Option.some.inj e)
   rw [dchar _ hl] at this;have h9:(48:UInt8).toNat=48:=rfl;omega
  ·rw [decDigits,dif_neg hl]
   have h3:=dec_ne_nil (n / 10)
   cases hq:decDigits (n / 10) with
   | nil=>exact absurd hq h3
   | cons a m=>
    have:=ih (n / 10) (by omega) (by omega)
    rw [hq] at this;exact this
theorem dec_zero:decDigits 0=[48]:=by rw [decDigits,dif_pos (by decide)];rfl
def padTo (k r:Nat):List UInt8:=List.replicate (k - (decDigits r).length) 48 ++ decDigits r
theorem dec_length_le (k r:Nat) (hk:0<k) (hr:r<10 ^ k):(decDigits r).length≤k:=by
 rcases Nat.lt_or_ge k (decDigits r).length with h|h
 ·exfalso
  have hr0:r≠0:=by
   intro e;subst e;rw [dec_zero] at h;simp at h;omega
  have hd:=dec_isDig r;have hh:=dec_head r hr0;have hn:=natOf_dec r
  cases hq:decDigits r with
  | nil=>exact dec_ne_nil r hq
  | cons c m=>
   rw [hq] at h hd hh hn;rw [natOf_cons] at hn;have h2:=(isDig_iff c).1 (hd c (List.mem_cons_self ..))
   have h3:c.toNat≠48:=fun e=>hh (by
    rw [List.head?_cons];congr 1;apply UInt8.toNat_inj.1;rw [e];rfl)
   have h5:1*10 ^ m.length≤(c.toNat - 48)*10 ^ m.length:=Nat.mul_le_mul_right _ (by omega);have h6:10 ^ k≤10 ^ m.length:=Nat.pow_le_pow_right (by decide) (by simp at h;omega);omega
 ·exact h
theorem padTo_length (k r:Nat) (hk:0<k) (hr:r<10 ^ k):(padTo k r).length=k:=by
 have:=dec_length_le k r hk hr
 simp [padTo];omega
theorem natOf_zeros (k:Nat) (l:List UInt8):natOf (List.replicate k 48 ++ l)=natOf l:=by
 induction k with
 | zero=>simp
 | succ k ih=>rw [List.replicate_succ,List.cons_append,natOf_cons,ih];simp
theorem padTo_isDig (k r:Nat):∀c ∈ padTo k r,isDig c=true:=by
 intro c hc
 rcases List.mem_append.1 hc with h|h
 ·rw [List.mem_replicate] at h
  rw [h.2];rfl
 ·exact dec_isDig r c h
theorem dec_split (k q r:Nat) (hk:0<k) (hq:0<q) (hr:r<10 ^ k):decDigits (q*10 ^ k+r)=decDigits q ++ padTo k r:=by
 have h1:natOf (decDigits q ++ padTo k r)=q*10 ^ k+r:=by
  rw [natOf_append,natOf_dec,padTo_length k r hk hr];unfold padTo;rw [natOf_zeros,natOf_dec]
 rw [←h1];have hn:=dec_ne_nil q;refine dec_natOf _ ?_ (by simp [hn]) (Or.inl ?_)
 ·intro c hc
  rcases List.mem_append.1 hc with h|h
  ·exact dec_isDig q c h
  ·exact padTo_isDig k r c h
 ·cases hd:decDigits q with
  | nil=>exact absurd hd hn
  | cons a m=>
   have:=dec_head q (by omega)
   rw [hd] at this;exact this
def txt (q:Rat):List UInt8:=(if q.num<0 then [45] else []) ++ decDigits q.num.natAbs ++ (if q.den=1 then [] else 47 :: decDigits q.den)
end Go.Proofs.YtjamgccgoapbeaaGreatDoor
