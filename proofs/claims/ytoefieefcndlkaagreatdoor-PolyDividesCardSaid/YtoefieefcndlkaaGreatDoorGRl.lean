/- The reference's natural numbers: their decimal text. Derivatives of polynomials. Printed by gen_qo.py. -/
import Derived.Test.YtoefieefcndlkaaGreatDoorGRm
import Derived.Test.YtoefieefcndlkaaGreatDoorGTd
import Derived.Laws.IdiomStrings
import Derived.Test.YtoefieefcndlkaaGreatDoorGVx
import Derived.Deep.RegionHeld3
set_option linter.unusedVariables false
set_option maxRecDepth 100000
set_option maxHeartbeats 64000000
namespace Go.Proofs.YtoefieefcndlkaaGreatDoor
open Go.RowKit
def PartS (q rest i R:Nat) (p:List UInt8):Prop:=
 p.length=i∧(∀c ∈ p,isDig c=true)∧natOf p+10 ^ i*R=rest∧(q=0→R=0→p≠[]→p.head?≠some 48)
theorem part_start (q rest:Nat):PartS q rest 0 rest []:=⟨rfl,by simp,by simp [natOf],by simp⟩
theorem part_step {q rest i R:Nat} {p:List UInt8} (h:PartS q rest i R p) (hc:0<q∨0<R):PartS q rest (i+1) (R / 10) (UInt8.ofNat (48+R % 10) :: p):=by
 obtain⟨h1,h2,h3,h4⟩:=h;have hd:(UInt8.ofNat (48+R % 10)).toNat=48+R % 10:=dchar _ (by omega);refine⟨by simp [h1],?_,?_,?_⟩
 ·intro c hc
  rcases List.mem_cons.1 hc with rfl|hc
  ·rw [isDig_iff,hd];omega
  ·exact h2 c hc
 ·rw [natOf_cons,hd,h1,Nat.pow_succ]
  have e:48+R % 10 - 48=R % 10:=by omega
  rw [e,←h3];have e2:10 ^ i*R=10 ^ i*(10*(R / 10)+R % 10):=by rw [Nat.div_add_mod]
  have e3:10 ^ i*10*(R / 10)=10 ^ i*(10*(R / 10)):=by rw [Nat.mul_assoc]
  rw [e2,e3,Nat.mul_add,Nat.mul_comm (R % 10)];omega
 ·intro hq hR _ hh
  rw [List.head?_cons] at hh
  have:=congrArg UInt8.toNat (Option.some.inj hh)
  rw [hd] at this;have h9:(48:UInt8).toNat=48:=rfl;omega
def DecS (n m:Nat) (y:List UInt8):Prop:=Lib.decDigits n=(if m=0 then [] else Lib.decDigits m) ++ y
theorem dec_start {n:Nat} (h:0<n):DecS n n []:=by
 unfold DecS;rw [if_neg (by omega),List.append_nil]
theorem dec_done {n:Nat} {y:List UInt8} (h:DecS n 0 y):Lib.decDigits n=y:=by
 unfold DecS at h;simpa using h
theorem dec_round {n m q rest i R:Nat} {p y:List UInt8} (h:DecS n m y) (hm:0<m) (hq:m=q*1000000000+rest) (hr:rest<1000000000) (hp:PartS q rest i R p) (he:i=9∨(q=0∧R=0)) (hi:i≤9):DecS n q (p ++ y):=by
 obtain⟨h1,h2,h3,h4⟩:=hp
 have hR:R=0:=by
  rcases he with rfl|he
  ·rcases Nat.eq_zero_or_pos R with h0|h0
   ·exact h0
   ·have:10 ^ 9*1≤10 ^ 9*R:=Nat.mul_le_mul_left _ h0
    omega
  ·exact he.2
 subst hR;have hn:natOf p=rest:=by omega
 have key:Lib.decDigits m=(if q=0 then [] else Lib.decDigits q) ++ p:=by
  rcases Nat.eq_zero_or_pos q with hq0|hq0
  ·subst hq0
   rw [if_pos rfl,List.nil_append];have hm':m=natOf p:=by omega
   have hne:p≠[]:=by
    rintro rfl
    simp [natOf] at hm';omega
   rw [hm'];exact dec_natOf p h2 hne (Or.inl (h4 rfl rfl hne))
  ·rw [if_neg (by omega)]
   have h9:i=9:=by omega
   have e1:natOf (Lib.decDigits q ++ p)=m:=by
    rw [natOf_append,natOf_dec,h1,h9,hn,hq]
   have hnn:=dec_ne_nil q;rw [←e1];refine dec_natOf _ ?_ (by simp [hnn]) (Or.inl ?_)
   ·intro c hc
    rcases List.mem_append.1 hc with hc|hc
    ·exact dec_isDig q c hc
    ·exact h2 c hc
   ·cases hd:Lib.decDigits q with
    | nil=>exact absurd hd hnn
    | cons a t=>
     have:=dec_head q (by omega)
     rw [hd] at this;exact this
 unfold DecS at *;rw [h,if_neg (by omega),key,List.append_assoc]
theorem decS_len {n m:Nat} {y:List UInt8} (h:DecS n m y):y.length≤(Lib.decDigits n).length:=by
 unfold DecS at h;rw [h,List.length_append];omega
theorem dec_len_r {n M:Nat} (h:n<2 ^ M):(Lib.decDigits n).length≤M+1:=dec_length_le (M+1) n (by omega) (by
 have h7:2 ^ M≤10 ^ M:=Nat.pow_le_pow_left (by decide) _;have h8:10 ^ M≤10 ^ (M+1):=Nat.pow_le_pow_right (by decide) (by omega)
 omega)
theorem dec_outer {d R N c R' A Q:Nat} (h:A=Q*N+R) (hc:c*N+R'=R*1073741824+d):d+B30*A=(c+B30*Q)*N+R':=by
 rw [h,B30_eq];grind
theorem drop_set {qs:List Nat} {k c:Nat} (h:k<qs.length):num B30 ((qs.set k c).drop k)=c+B30*num B30 (qs.drop (k+1)):=by
 rw [num_drop_cons (by rw [List.length_set];exact h)]
 congr 1
 ·simp [List.getD_eq_getElem?_getD,h]
 ·rw [List.drop_set_of_lt (by omega)]
theorem decimal_r (M:Nat) (hM:M≤1099511627776) (va:Value) (n:Nat) (w:World) (ha:Wr w va n) (hn:n<2 ^ M):Calls Tryz.prog 140 #[va] w fun e w'=>e=.returned (.string ⟨(Lib.decDigits n).toArray⟩)∧Ext w w':=by
 have HL:=ZZ (dec_len_r hn);have HA:=ZZ ha;have HN:=ZZ hn
 rcases Nat.eq_zero_or_pos n with h0|h0
 ·subst h0
  obtain⟨A,ca,rfl,hca,hA⟩:=ha;have hz:(dr 0).length=0:=by simp [dr,dig_zero]
  rw [hz] at hca ⊢;have HZ:=ZZ dec_zero;clear hn hA hca
  go_enter Tryz.func140,Tryz.ntmps140
  go_wp2_with fail;go_ret
  exact⟨by rw [HZ.out];rfl,ae _⟩
 ·obtain⟨A,ca,rfl,hca,hA⟩:=ha
  have hlp:0<(dr n).length:=(dr_top h0).2.2.1;have HST:=ZZ (dec_start h0);generalize (dr n).length=len at *;have hlp':((len:Int) == 0)=false:=by simp;omega
  clear hn hA hca h0
  go_enter Tryz.func140,Tryz.ntmps140
  go_wp2_with fail;clear hlp hlp'
  go_loopg [0,3] n (fun gk a s wr=>∃y:List UInt8,s=.string ⟨y.toArray⟩∧Hid (DecS n gk y)∧Hid (Wr wr a gk)∧Hid (Ext w wr)∧Hid (gk≤n))
  case atStart=>exact⟨[],rfl,HST,HA,ZZ (ae _),ZZ (Nat.le_refl _)⟩
  case round=>
   obtain⟨m,hm⟩:∃m,m=gk:=⟨_,rfl⟩;subst hm;obtain⟨y,rfl,HD,HW,HE,HLE⟩:=hrel;have hyl:=decS_len HD.out;have hyl2:=HL.out;have HYL:=ZZ (show y.length≤M+1 by omega);clear hyl hyl2
   rcases Nat.eq_zero_or_pos m with hz|hz
   ·subst hz
    obtain⟨A,ca,rfl,hca,hA⟩:=HW.out;have hz:(dr 0).length=0:=by simp [dr,dig_zero]
    rw [hz] at hca ⊢;have HDN:=ZZ (dec_done HD.out);clear hA hca hz;go_wp2_with fail;go_ret;exact⟨by rw [HDN.out];rfl,HE.out⟩
   ·obtain⟨A,ca,rfl,hca,hA⟩:=HW.out
    have hlp:0<(dr m).length:=(dr_top hz).2.2.1
    have hlm:(dr m).length≤1099511627776:=by
     have h1:=dig_length_mono B30_two HLE.out;have h2:=dr_bits HN.out;unfold dr at h2 ⊢;omega
    have em:=num_dr m;have ml:=dr_lt m;obtain⟨b,o,rfl,hcb⟩:=hA.i hlp;have HCB:=ZZ hcb;generalize dr m=ms at *;have EM:=ZZ em;have ML:=ZZ ml;have HM0:=ZZ hz;have hmk:=mk_digits ms.length (ms.length:Int) rfl (by omega);have hwl:IntKind.i64.wrap ((ms.length:Int) - 1)=(ms.length:Int) - 1:=IntWalk.i64_in _ (by omega);have hlp':(0:Int)<(ms.length:Int):=by omega
    have HHM:=ZZ hM;clear hcb hA em ml hz hca hM;go_wp2_with fail;clear hmk hwl hlp';have XW:=ZZ (ab wr (.cells ((zs ms.length).map i64n).toArray 2))
    go_loopw [5,6] (fun r i wx=>∃(k R:Nat) (qs:List Nat),k≤ms.length∧i=.int .i64 ((k:Int) - 1)∧r=.int .i64 (R:Int)∧R<1000000000∧qs.length=ms.length∧(∀d ∈ qs,d<B30)∧BkI wx wr.heap.size qs∧Below wr.heap.size wr wx∧num B30 (ms.drop k)=num B30 (qs.drop k)*1000000000+R∧∀j,j<k→qs.getD j 0=0) (fun _ i _=>(intOf i+1).toNat)
    case atStart=>exact⟨ms.length,0,zs ms.length,Nat.le_refl _,rfl,rfl,by omega,zs_length _,zs_lt (by rw [B30_eq];omega) _,BkI.new _ _,ab _ _,by
     rw [List.drop_of_length_le (Nat.le_refl _),List.drop_of_length_le (by rw [zs_length];omega)];simp,fun j _=>by
     simp [zs,List.getD_eq_getElem?_getD,List.getElem?_replicate];split <;> rfl⟩
    case round=>
     rename World=>W2;obtain⟨k,R,qs,hk,rfl,rfl,hR,hq,hql,hbk,hbel,hnum,hzq⟩:=hrel;have HQ:=ZZ hq;have HQL:=ZZ hql;have HBK:Hid (BkI W2 wr.heap.size qs):=hbk;have HBE:=ZZ hbel;have HNUM:=ZZ hnum;have HZQ:=ZZ hzq;clear hq hql hbk hbel hnum hzq
     rcases k with _|k
     ·have HCL:=ZZ HBK.out.cl
      obtain⟨q,hqe⟩:∃q,q=num B30 qs:=⟨_,rfl⟩
      have HMQ:=ZZ (show m=q*1000000000+R by
       have h1:=HNUM.out;rw [List.drop_zero,List.drop_zero,EM.out,←hqe] at h1;exact h1)
      have HQE:=ZZ hqe;have HRB:=ZZ hR;clear hqe;go_wp2_with fail;refine(rcut_c _ qs _ _ HCL.out ms.length HQ.out (Nat.le_refl _) (by omega)).mono ?_;rintro e w6 ⟨rfl,rfl⟩
      have HWQ:=ZZ (show Wr W2 (.slice (some ⟨wr.heap.size,0,none⟩) (cut qs).length ms.length) q by
       rw [HQE.out];exact rcut_w HQL.out HCL.out (c:=ms.length) (by rw [HQ.out];exact Nat.le_refl _))
      have hcq:=cut_dig B30_two HQL.out
      have hq0:(cut qs).length=0↔q=0:=by
       rw [hcq,←HQE.out];rw [List.length_eq_zero_iff];exact dig_eq_nil B30_two
      have HQ0:=ZZ hq0;clear hcq hq0;generalize (cut qs).length=kq at *;have HEX:=ZZ (show Ext w W2 from ak HE.out (show Ext wr W2 from HBE.out));go_wp2_with fail
      go_loopg [5,7,8] 9 (fun g r p i wx=>∃(c R':Nat) (pl:List UInt8),c+g=9∧i=.int .i64 (c:Int)∧r=.int .i64 (R':Int)∧R'<1000000000∧p=.string ⟨pl.toArray⟩∧Hid (PartS q R c R' pl)∧Hid (Ext W2 wx))
      case atStart=>exact⟨0,R,[],by omega,rfl,rfl,HRB.out,rfl,ZZ (part_start q R),ZZ (ae _)⟩
      case round=>
       rename World=>W3;obtain⟨c,R',pl,hc,rfl,rfl,hR',rfl,HP,HE3⟩:=hrel;have HC3:=ZZ hc;have hpl:=HP.out.1;have HPL:=ZZ hpl
       by_cases hgo:c<9∧(0<kq∨0<R')
       ·have HGO:=ZZ hgo
        have hst:=part_step HP.out (by
         rcases hgo.2 with h|h
         ·left;rcases Nat.eq_zero_or_pos q with h0|h0
          ·have:=HQ0.out.2 h0;omega
          ·exact h0
         ·exact .inr h)
        obtain⟨dg,hdg⟩:∃dg:Nat,dg=R' % 10:=⟨_,rfl⟩;obtain⟨R2,hR2⟩:∃R2:Nat,R2=R' / 10:=⟨_,rfl⟩;obtain⟨ch,hch⟩:∃ch:Nat,ch=48+dg:=⟨_,rfl⟩;rw [←hdg,←hR2,←hch] at hst;have HST2:=ZZ hst;have hri:(R':Int) % 10=(dg:Int):=by omega
        have hqi:(R':Int) / 10=(R2:Int):=by omega
        have hw1:IntKind.i64.wrap (48+(dg:Int))=(ch:Int):=(IntWalk.i64_in _ (by omega)).trans (by omega);have hw2:IntKind.u8.wrap (ch:Int)=(ch:Int):=IntWalk.u8_in _ (by omega);have hw3:IntKind.i64.wrap (R2:Int)=(R2:Int):=IntWalk.i64_in _ (by omega);have hw4:IntKind.i64.wrap ((c:Int)+1)=((c+1:Nat):Int):=(IntWalk.i64_in _ (by omega)).trans (by omega);have t1:decide ((c:Int)<9)=true:=by simp;omega
        have t1':decide (c<9)=true:=by simp;omega
        have HR2:=ZZ (show R2<1000000000 by omega);obtain⟨cb,hcb⟩:∃cb:UInt8,cb=UInt8.ofNat ch:=⟨_,rfl⟩;have hcn:(cb.toNat:Int)=(ch:Int):=by rw [hcb,UInt8.toNat_ofNat'];omega
        have hcv:∀W:World,(convert 185 9 (.slice (some ⟨W.heap.size,0,none⟩) 1 1)).run Tryz.prog (W.alloc (.cells #[.int .u8 (ch:Int)] 5))=.ok (.string ⟨#[cb]⟩) (W.alloc (.cells #[.int .u8 (ch:Int)] 5)):=fun W=>
         run_convert_bytes_back (P:=Tryz.prog) (W.alloc (.cells #[.int .u8 (ch:Int)] 5)) 185 9 5 ⟨W.heap.size,0,none⟩ 1 [cb] Tryz.underlying185 Tryz.underlying5 Tryz.underlying9 (fun j hj=>by
          obtain rfl:j=0:=by simp at hj;omega
          simp [hcn,Addr.add])
        have e1:(⟨#[cb]⟩:ByteArray) ++ ⟨pl.toArray⟩=⟨(cb :: pl).toArray⟩:=str_append [cb] pl;have c1:1+pl.length≤9223372036854775807:=by omega
        rw [←hcb] at hst;have HST2:=ZZ hst;clear hst hdg hR2 hch hcb hcn hpl hc
        rcases Nat.eq_zero_or_pos kq with hk0|hk0
        ·subst hk0
         have t3:(0:Int)<(R':Int):=by have:=HGO.out.2;omega
         clear hgo;go_wp2_with fail
         go_roundg (gk - 1)
         case measure=>have:=HGO.out.1;have:=HC3.out;omega
         case rel=>exact⟨c+1,R2,cb :: pl,by have:=HGO.out.1;have:=HC3.out;omega,by first|rfl|simp,rfl,HR2.out,rfl,HST2,ZZ (ak HE3.out (ab _ _))⟩
        ·have t2:(0:Int)<(kq:Int):=by omega
         clear hgo;go_wp2_with fail
         go_roundg (gk - 1)
         case measure=>have:=HGO.out.1;have:=HC3.out;omega
         case rel=>exact⟨c+1,R2,cb :: pl,by have:=HGO.out.1;have:=HC3.out;omega,by first|rfl|simp,rfl,HR2.out,rfl,HST2,ZZ (ak HE3.out (ab _ _))⟩
       ·have HGO:=ZZ hgo
        have c1:pl.length+y.length≤9223372036854775807:=by have:=HYL.out;have:=HHM.out;omega
        have e1:(⟨pl.toArray⟩:ByteArray) ++ ⟨y.toArray⟩=⟨(pl ++ y).toArray⟩:=str_append pl y;have hkq:kq=0→q=0:=HQ0.out.1
        have HRD:=ZZ (dec_round HD.out HM0.out HMQ.out HRB.out HP.out (by
         rcases(show c=9∨c<9 by omega) with h|h
         ·exact .inl h
         ·right
          have h1:kq=0:=by have:=HGO.out;omega
          exact⟨hkq h1,by have:=HGO.out;omega⟩) (by omega))
        have HQM:=ZZ (show q<m by have h1:=HMQ.out;have h2:=HM0.out;omega);clear hkq hpl
        rcases(show c=9∨c<9 by omega) with h9|h9
        ·subst h9
         clear hgo hc;go_wp2_with fail
         go_roundg q
         case measure=>exact HQM.out
         case rel=>exact⟨pl ++ y,rfl,HRD,ZZ (HWQ.out.mono HE3.out),ZZ (ak HEX.out HE3.out),ZZ (by have:=HQM.out;have:=HLE.out;omega)⟩
        ·have t1:decide ((c:Int)<9)=true:=by simp;omega
         have t1':decide (c<9)=true:=by simp;omega
         obtain rfl:kq=0:=by omega
         obtain rfl:R'=0:=by omega
         clear hgo hc h9;go_wp2_with fail
         go_roundg q
         case measure=>exact HQM.out
         case rel=>exact⟨pl ++ y,rfl,HRD,ZZ (HWQ.out.mono HE3.out),ZZ (ak HEX.out HE3.out),ZZ (by have:=HQM.out;have:=HLE.out;omega)⟩
     ·rw [show (((k+1:Nat):Int) - 1)=(k:Int) by omega]
      have ea:=am HBE.out (HCB.out k (by omega));have hdb:=getD_lt ML.out (by rw [B30_eq];omega) k;have HND:=ZZ (num_drop_cons (B:=B30) (l:=ms) (k:=k) (by omega));rw [B30_eq] at hdb;generalize ms.getD k 0=d at *;have hci:=HBK.out.cell k (by rw [HQ.out];omega);have hfi:=HBK.out.frozen k;obtain⟨t1,ht1⟩:∃t1:Nat,t1=R*1073741824:=⟨_,rfl⟩;obtain⟨t2,ht2⟩:∃t2:Nat,t2=t1+d:=⟨_,rfl⟩;obtain⟨c,hc⟩:∃c:Nat,c=t2 / 1000000000:=⟨_,rfl⟩;obtain⟨R2,hR2⟩:∃R2:Nat,R2=t2 % 1000000000:=⟨_,rfl⟩;have hw1:IntKind.i64.wrap ((R:Int)*1073741824)=(t1:Int):=(IntWalk.i64_in _ (by omega)).trans (by omega);have hw2:IntKind.i64.wrap ((t1:Int)+(d:Int))=(t2:Int):=(IntWalk.i64_in _ (by omega)).trans (by omega);have hqi:(t2:Int) / 1000000000=(c:Int):=by omega
      have hri:(t2:Int) % 1000000000=(R2:Int):=by omega
      have hwq:IntKind.i64.wrap (c:Int)=(c:Int):=IntWalk.i64_in _ (by omega);have hw3:IntKind.i64.wrap ((k:Int) - 1)=(k:Int) - 1:=IntWalk.i64_in _ (by omega);have HCB2:=ZZ (show c<B30 by rw [B30_eq];omega);have HR2:=ZZ (show R2<1000000000 by omega);have HS2:=ZZ (show c*1000000000+R2=R*1073741824+d by omega);have HSET:=ZZ (HBK.out.set_ k c);have HKL:=ZZ (show k<qs.length by rw [HQ.out];omega);have hkl:k<ms.length:=by omega
      clear ht1 ht2 hc hR2;go_wp2_with fail
      go_roundw
      case rel=>
       refine⟨k,R2,qs.set k c,by omega,by first|rfl|go_num,by rw [hri],HR2.out,by rw [List.length_set,HQ.out],set_lt HQL.out HCB2.out _,HSET.out,HBE.out.setCell (Nat.le_refl _) _,?_,fun j hj=>by rw [getD_set_ne (by omega)];exact HZQ.out j (by omega)⟩;rw [HND.out,drop_set HKL.out];exact dec_outer HNUM.out HS2.out
      case measure=>simp [intOf]
end Go.Proofs.YtoefieefcndlkaaGreatDoor
set_option linter.unusedVariables false
set_option maxRecDepth 100000
set_option maxHeartbeats 64000000
namespace Go.Proofs.YtoefieefcndlkaaGreatDoor
open Go.RowKit
set_option linter.unusedSimpArgs false
section
variable {P:Program} {md:Region.Mode} {ops:Array Oper} {Q:Exit→Act→World→Prop} {S:World→Prop}
theorem take_p {i:Nat} (d:Tmp) {oi:Oper} {v:Value} {fuel:Nat} {listed:Array Bool} {a:Act} {w:World} (hi:ops[i]?=some oi) (hd:oi.dst=some d) (hs:Region.noSelect ops=true) (hf:Region.free md ops listed i=true) (hr:(Region.ready md ops listed).contains i=true) (hQ:∀c a w,Q (.panic c) (a.put (some d) v) w→Q (.panic c) a w) (hy:YieldsIf P ops S oi v a) (hS:S w) (h:wpAnyH P md ops Q S fuel (listed.setIfInBounds i true) (a.put (some d) v) w):wpAnyH P md ops Q S (fuel+1) listed a w:=by
 rw [←hd] at hQ h;exact wpAnyH_take hi hs hf hr hQ hy hS h
theorem take_a (i:Nat) (d:Tmp) {oi:Oper} {v:Value} {fuel:Nat} {listed:Array Bool} {a a':Act} {w:World} (h:wpAnyH P md ops Q S fuel (listed.setIfInBounds i true) a' w) (hi:ops[i]?=some oi:=by exact rfl) (hd:oi.dst=some d:=by exact rfl) (hs:Region.noSelect ops=true:=by kernel_rfl) (hf:Region.free md ops listed i=true:=by kernel_rfl) (hr:(Region.ready md ops listed).contains i=true:=by kernel_rfl) (hQ:∀c a w,Q (.panic c) (a.put (some d) v) w→Q (.panic c) a w:=by exact fun _ _ _ h=>h) (hy:YieldsIf P ops S oi v a:=by refine Or.inl ⟨rfl,?_⟩;intro w hSw;(try dsimp only at hSw);go_simp;try with_reducible rfl) (hS:S w:=by assumption) (ha:a.put (some d) v=a':=by simp only [Act.put,List.setIfInBounds_toArray,List.set_cons_zero,List.set_cons_succ] <;> rfl):wpAnyH P md ops Q S (fuel+1) listed a w:=by
 subst ha;exact take_p (i:=i) d hi hd hs hf hr hQ hy hS h
theorem call_p {fuel:Nat} {listed:Array Bool} {a:Act} {w:World} {i:Nat} (d:Option Tmp) {o:Oper} (ho:ops[i]?=some o) (hd:o.dst=d) (hr:Region.ready md ops listed=[i]) (h:∀K':Act→World→Prop,Shut (∀a w,S w→(S w→wpAnyH P md ops Q S fuel (listed.setIfInBounds i true) a w)→K' a w)→if Region.wanted o (yielded ops a.tmps)=true then Oper.wp P o a w K' Q else K' (a.put d undef) w):wpAnyH P md ops Q S (fuel+1) listed a w:=by
 rw [←hd] at h;exact wpAnyH_ready hr (by simp) (AllReadyH.cons ho h AllReadyH.nil)
end
theorem oper_append1 {P:Program} {o:Oper} {a:Act} {w w':World} {K:Act→World→Prop} {Q:Exit→Act→World→Prop} {T1 T2:TypeId} {ad:Addr} {c:Nat} {v v':Value} (s x:Operand) (ho:o.op=.call { callee:=.builtin .append,args:=#[s,x],argTypes:=#[T1,T2] }) (hs:a.eval s=v) (hx:a.eval x=.slice (some ad) 1 c) (hr:(Builtin.append_ #[T1,T2] o.type #[v,.slice (some ad) 1 c]).run P w=.ok v' w') (hk:K (a.put o.dst v') w'):Oper.wp P o a w K Q:=by
 unfold Oper.wp execOp
 simp only [ho,resolve,invoke,builtin,Sem.run_bind,Sem.run_pure,Result.andThen_ok,List.map_toArray,List.map_cons,List.map_nil,hs,hx,hr]
 exact hk
def derU (p:List Rat) (j:Nat):List Rat:=((List.range j).map fun i=>co p i*((i:Int):Rat)).tail
theorem derU_succ (p:List Rat) {j:Nat} (h:0<j):derU p (j+1)=derU p j ++ [co p j*((j:Int):Rat)]:=by
 unfold derU;rw [List.range_succ,List.map_append,List.tail_append_of_ne_nil (by simp;omega)]
 rfl
theorem derU_len (p:List Rat) (j:Nat):(derU p j).length=j - 1:=by simp [derU]
theorem derU_get (p:List Rat) (j k:Nat):(derU p j)[k]?=if k+1<j then some (co p (k+1)*(((k+1:Nat):Int):Rat)) else none:=by
 unfold derU;rw [List.getElem?_tail,List.getElem?_map]
 by_cases h:k+1<j
 ·rw [List.getElem?_range h,if_pos h];rfl
 ·rw [List.getElem?_eq_none (by simpa using h),if_neg h];rfl
def derivF (p:List Rat):List Rat:=trimF (derU p p.length)
theorem co_deriv (p:List Rat) (k:Nat):co (derivF p) k=dco (co p) k:=by
 unfold derivF;rw [co_trim]
 show ((derU p p.length)[k]?).getD 0=_
 rw [derU_get]
 show _=co p (k+1)*((k+1:Nat):Rat)
 split
 ·rfl
 ·rw [co_ge (p:=p) (i:=k+1) (by omega)]
  show (0:Rat)=0*_
  rw [Rat.zero_mul]
theorem deriv_p (M:Nat) (hM0:0<M) (hM:M+64≤1099511627776) (vp:Value) (p:List Rat) (hl:p.length≤1000000) (w:World) (hp:Pl w vp p) (hb:∀q ∈ p,Bq M q):Calls Tryz.prog 20 #[vp] w fun e w'=>∃v',e=.returned v'∧PlN w.heap.size w' v' (derivF p)∧Ext w w':=by
 obtain⟨A,cap,rfl,hc,hA⟩:=id hp;obtain⟨n,hn⟩:∃n,p.length=n:=⟨_,rfl⟩;rw [hn];have HNL:=ZZ hn;have HL:=ZZ hl;have HB:=ZZ hb;have HM:=ZZ hM;have HA:=ZZ hA;clear hp hl hb hM hA hc hn
 go_enter Tryz.func20,Tryz.ntmps20
 go_wp2_with fail
 go_loopg [8,3] n (fun k i u wr=>∃j,Hid (j+k=n)∧i=.int .i64 (j:Int)∧Hid (OwnP wr w.heap.size u (derU p j))∧Hid (Ext w wr))
 case atStart=>exact⟨0,ZZ (Nat.zero_add _),rfl,ZZ (OwnP.nil _ _),ZZ (ae _)⟩
 case round=>
  obtain⟨j,HJ,rfl,HO,HE⟩:=hrel;rename World=>WR
  rcases Nat.eq_zero_or_pos gk with hz|hz
  ·subst hz
   obtain rfl:j=n:=HJ.out;have q1:decide ((j:Int)<(j:Int))=false:=decide_eq_false (Int.lt_irrefl _);go_wp2_with fail;refine(trim_q _ (derU p j) (by have h1:=HL.out;have h2:=HNL.out;rw [derU_len];omega) _ HO.out.pl).mono ?_;rintro e w' ⟨v',rfl,hn,kk⟩;rw [show trimF (derU p j)=derivF p by unfold derivF;rw [HNL.out]] at hn;have HN:=ZZ hn;have HK2:=ZZ kk;clear hn kk;go_wp2_with fail;go_ret;refine⟨_,rfl,?_,ak HE.out HK2.out⟩
   rcases HN.out with hn|⟨g,hg,hn⟩
   ·exact .inl hn
   ·exact .inr ⟨g,Nat.le_trans HE.out.size hg,hn⟩
  ·have hjn:j<n:=by have:=HJ.out;omega
   have hjp:j<p.length:=by rw [HNL.out];exact hjn
   have q1:decide ((j:Int)<(n:Int))=true:=decide_eq_true (by omega);have q1':decide (j<n)=true:=decide_eq_true hjn;have q4:(j:Int)<(n:Int):=by omega
   have q5:(0:Int)≤(j:Int):=by omega
   rcases HA.out with ⟨-,h5⟩|⟨b,o,rfl,ht⟩
   ·rw [h5] at hjp;simp at hjp
   have hq:p[j]?=some (co p j):=by unfold co;rw [List.getElem?_eq_getElem hjp];rfl
   obtain⟨s1,A1,k1,ca1,B1,l1,cb1,c0,c1,c2,hcn⟩:=(ht j _ hq).mono HE.out;have BC:=ZZ (HB.out _ (List.mem_of_getElem? hq));have BJ:=ZZ (show Bq 64 ((j:Int):Rat) from bq_int _ (by omega) (by have h1:=HL.out;omega));have E6:=ZZ (ab WR (.cells #[.bool s1,.slice A1 k1 ca1,.slice B1 l1 cb1] 52));have NC:=ZZ (hcn.mono (ab WR (.cells #[.bool s1,.slice A1 k1 ca1,.slice B1 l1 cb1] 52)));have RC:=ZZ (heap_alloc_new WR (.cells #[.bool s1,.slice A1 k1 ca1,.slice B1 l1 cb1] 52));have HZ:=ZZ hz;have HJN:=ZZ hjp;clear hq hcn ht hz hjp
   go_upto_region 5 with (fail)
   generalize World.alloc WR (.cells #[.bool s1,.slice A1 k1 ca1,.slice B1 l1 cb1] _)=W6 at *
   have HGC:=ZZ (show ∀g,u3.ownBlock=some g→g≠WR.heap.size from fun g hg e=>by
    obtain⟨xs,ho,-⟩:=HO.out
    have:=(ho.lt g hg).2
    omega)
   generalize WR.heap.size=gc at *
   rcases Nat.eq_zero_or_pos j with h0|h0
   ·subst h0
    have z0:decide ((0:Int)<((0:Nat):Int))=false:=rfl;go_wp2_with fail
    go_roundg (gk - 1)
    case measure=>have:=HZ.out;omega
    case rel=>exact⟨1,ZZ (by have:=HJ.out;have:=HZ.out;omega),rfl,ZZ (HO.out.mono E6.out),ZZ (ak HE.out E6.out)⟩
   ·have z0:decide ((0:Int)<(j:Int))=true:=decide_eq_true (by omega)
    have z0':decide (0<j)=true:=decide_eq_true h0;have H0:=ZZ h0;clear h0
    have HC:=ZZ (show ∀W,Ext W6 W→W.cell? ⟨gc,0,none⟩=some (.bool s1)∧W.cell? ⟨gc,1,none⟩=some (.slice A1 k1 ca1)∧W.cell? ⟨gc,2,none⟩=some (.slice B1 l1 cb1) from fun W k=>by
     obtain⟨y0,y1,y2,-⟩:=ai ((k.block _ (lt_of_block RC.out)).trans RC.out);exact⟨y0,y1,y2⟩)
    clear c0 c1 c2
    go_upto_region 6 with (fail)
    have hun:undef=.tuple #[]:=rfl;refine wp_region_noPanic ?_;refine wp_region_held_drew (S:=fun W=>W.cell? ⟨gc,0,none⟩=some (.bool s1)∧W.cell? ⟨gc,1,none⟩=some (.slice A1 k1 ca1)∧W.cell? ⟨gc,2,none⟩=some (.slice B1 l1 cb1)) (by kernel_rfl) (HC.out _ (ac _)) (fun hHeld=>?_);refine take_a 0 15 ?_;refine take_a 1 16 ?_;refine take_a 2 17 ?_;refine call_p (i:=3) (some 18) rfl rfl (by kernel_rfl) (fun K hK=>?_)
    go_simp
    go_at_call 23
    refine(int_q (j:Int) (by have h1:=HL.out;have h2:=HJN.out;have h3:=HNL.out;omega) (by have h1:=HL.out;have h2:=HJN.out;have h3:=HNL.out;omega) _).mono ?_;rintro e w4 ⟨v4,rfl,h4,kk4⟩;obtain⟨s4,A4,k4,ca4,B4,l4,cb4,rfl⟩:=h4.form2;have H4:=ZZ h4;have hx1:=ZZ (show Ext W6 w4 from ak (ac _) kk4);clear h4 kk4
    try go_wp2_with fail
    refine hK.out _ _ (HC.out _ hx1.out) (fun hHeld=>?_);clear hK K
    try simp only [Act.put,lyA,lyB,lyC]
    refine call_p (i:=4) (some 19) rfl rfl (by kernel_rfl) (fun K hK=>?_)
    go_simp
    go_at_call 46
    refine(mul_q (M+64) HM.out _ _ (co p j) ((j:Int):Rat) _ (NC.out.mono hx1.out) H4.out (BC.out.mono (by omega)) (BJ.out.mono (by omega))).mono ?_;rintro e w5 ⟨v5,rfl,h5,kk5⟩;obtain⟨s5,A5,k5,ca5,B5,l5,cb5,rfl⟩:=h5.form2;have H5:=ZZ (h5.mono (ab w5 (.cells #[.bool s5,.slice A5 k5 ca5,.slice B5 l5 cb5] 52)));have hx2:=ZZ (ak hx1.out kk5);have hx3:=ZZ (ak hx2.out (ab w5 (.cells #[.bool s5,.slice A5 k5 ca5,.slice B5 l5 cb5] 52)));obtain⟨xs,hown,hxs⟩:=HO.out.mono (ak E6.out hx3.out);have HXS:=ZZ hxs;have HOWN:=ZZ hown;have C3:=ZZ (cells3_new w5 (.bool s5) (.slice A5 k5 ca5) (.slice B5 l5 cb5) 52);clear h5 kk5 hown hxs
    try go_wp2_with fail
    refine hK.out _ _ (HC.out _ hx2.out) (fun hHeld=>?_);clear hK K
    try simp only [Act.put,lyA,lyB,lyC]
    refine call_p (i:=5) (some 20) rfl rfl (by kernel_rfl) (fun K hK=>?_)
    go_simp
    refine hK.out _ _ (HC.out _ hx3.out) (fun hHeld=>?_);clear hK K
    try simp only [Act.put,lyA,lyB,lyC]
    refine call_p (i:=6) (some 21) rfl rfl (by kernel_rfl) (fun K hK=>?_);refine(if_pos (show Region.wanted _ _=true from rfl)).mpr ?_;obtain⟨v7,w7,hr7,hown7,hgrow7⟩:=run_append1 (w5.alloc (.cells #[.bool s5,.slice A5 k5 ca5,.slice B5 l5 cb5] 52)) w.heap.size 25 _ (derU p j).length xs HOWN.out ⟨w5.heap.size,0,none⟩ 1 [.bool s5,.slice A5 k5 ca5,.slice B5 l5 cb5] rfl C3.out (by intro u hu;simp at hu;rcases hu with rfl|rfl|rfl <;> rfl) (by intro u hu z he;subst he;simp at hu) (by have h1:=HL.out;have h2:=HJN.out;rw [derU_len];omega) (ak HE.out (ak E6.out hx3.out)).size;have HOWN7:=ZZ hown7;have HGR7:=ZZ hgrow7;refine oper_append1 (.tmp 15) (.tmp 20) rfl rfl rfl hr7 ?_;clear hown7 hgrow7 hr7;refine hK.out _ _ (by obtain⟨y0,y1,y2⟩:=HC.out _ hx3.out;exact⟨HGR7.out.cell y0 (fun e=>HGC.out _ e.symm rfl),HGR7.out.cell y1 (fun e=>HGC.out _ e.symm rfl),HGR7.out.cell y2 (fun e=>HGC.out _ e.symm rfl)⟩) (fun hHeld=>?_);clear hK K
    try simp only [Act.put,lyA,lyB,lyC]
    refine take_a 7 3 ?_;refine wpAnyH_done (by kernel_rfl) ?_ _;refine NoPanic.normal ?_;have HP7:=ZZ (OwnP.snoc HOWN.out HXS.out H5.out HGR7.out HOWN7.out);have E7:=ZZ (ext_grown1 (ak HE.out (ak E6.out hx3.out)) HOWN.out HGR7.out);go_wp2_with fail
    go_roundg (gk - 1)
    case measure=>have:=HZ.out;omega
    case rel=>
     refine⟨j+1,ZZ (by have:=HJ.out;have:=HZ.out;omega),by have h1:=HL.out;have h2:=HJN.out;rw [IntWalk.wrap64_in _ ⟨by omega,by omega⟩];rfl,ZZ ?_,ZZ E7.out⟩;rw [derU_succ p H0.out];exact HP7.out
end Go.Proofs.YtoefieefcndlkaaGreatDoor
