/- Texts: the decimal digits of a natural number. -/
import Derived.Test.YtkoaakefgacokaaGreatDoorGTf
import Derived.Test.YtkoaakefgacokaaGreatDoorGYa
import Derived.Test.YtkoaakefgacokaaGreatDoorGRat
import Derived.Maps.AppendAt
import Derived.OwnWalk
import Derived.Lib.OwnBridge
set_option linter.unusedVariables false
set_option maxRecDepth 100000
set_option maxHeartbeats 64000000
namespace Go.Proofs.YtkoaakefgacokaaGreatDoor
open Go.RowKit Go.Sort
theorem by1_f (va:Value) (n b:Nat) (w:World) (ha:Wd w va n) (sa:Sm n) (h0:0<b) (hb:b<B64):Calls Tryz.prog 88 #[va,.int .u64 b] w fun e w'=>(∃(k c:Nat) (r:Nat),e=.returned (.tuple #[.slice (some ⟨w.heap.size,0,none⟩) k c,.int .u64 ((r:Nat):Int)])∧r=n % b∧Wd w' (.slice (some ⟨w.heap.size,0,none⟩) k c) (n / b))∧Ext w w'∧w.heap.size<w'.heap.size:=by
 obtain⟨A,ca,rfl,hca,hA⟩:=ha;have la:=dg_lt n;have en:=num_dg n;unfold Sm at sa;generalize dg n=xs at *;obtain⟨p,hp⟩:∃p,xs.length=p:=⟨_,rfl⟩;rw [hp] at hca sa ⊢;have Hp:=ZZ hp;have La:=ZZ la;have En:=ZZ en;have Hb:=ZZ hb;have hmk:=mk_words p (p:Int) rfl (by omega);clear hp la en hb
 go_enter Tryz.func88,Tryz.ntmps88
 go_wp2
 go_loopw [7,8] (fun c i wr=>∃(k rest:Nat) (r:List Nat),k≤p∧i=.int .i64 ((k:Int) - 1)∧c=.int .u64 rest∧rest<b∧r.length=p∧(∀d ∈ r,d<B64)∧BkU wr w.heap.size r∧Below w.heap.size w wr∧num B64 (r.drop k)*b+rest=num B64 (xs.drop k)) (fun _ i _=>(intOf i+1).toNat)
 case atStart=>exact⟨p,0,zs p,Nat.le_refl _,rfl,rfl,h0,zs_length _,zs_lt (by rw [B64_eq];omega) _,BkU.new _ _,ab _ _,by
  rw [List.drop_of_length_le (by rw [zs_length];omega),List.drop_of_length_le (by rw [Hp.out];omega)];simp⟩
 case round=>
  obtain⟨k,rest,r,hk,rfl,rfl,hrest,hr,hrl,hbk,hbel,hnum⟩:=hrel;have Hr:=ZZ hr;have Hrl:=ZZ hrl;have Hbk:Hid (BkU wr w.heap.size r):=hbk;have Hnum:=ZZ hnum;clear hr hrl hbk hnum
  by_cases hz:k=0
  ·subst hz
   have HC:=ZZ Hbk.out.cl;go_wp2_with fail;refine(cut_c _ r _ _ HC.out p Hr.out (by omega) (by omega)).mono ?_;rintro e w2 ⟨rfl,rfl⟩;go_wp2_with fail
   go_ret2
   have h1:=Hnum.out
   simp only [List.drop_zero] at h1
   rw [En.out] at h1
   have h2:n / b=num B64 r∧n % b=rest:=by
    rw [←h1,Nat.mul_comm]
    constructor
    ·rw [Nat.mul_add_div h0,Nat.div_eq_of_lt hrest,Nat.add_zero]
    ·rw [Nat.mul_add_mod,Nat.mod_eq_of_lt hrest]
   refine⟨⟨_,_,rest,rfl,h2.2.symm,?_⟩,hbel,Hbk.out.lt⟩;rw [h2.1];exact cut_w Hrl.out HC.out (by rw [Hr.out];omega)
  ·obtain⟨k,rfl⟩:∃j,k=j+1:=⟨k - 1,by omega⟩
   obtain⟨ba,oa,rfl,hca'⟩:=hA.u (by rw [Hp.out];omega);have ea:=ao hbel (hca' k (by rw [Hp.out];omega));have hxl:=getD_lt La.out (by rw [B64_eq];omega) k;have Hdx:Hid (xs.drop k=xs.getD k 0 :: xs.drop (k+1)):=drop_getD xs k (by rw [Hp.out];omega);clear hca' hA hz;generalize xs.getD k 0=x at *;have Hxl:=ZZ hxl;clear hxl;go_wp2_with fail;refine(div64_c rest x b hrest Hxl.out Hb.out _).mono ?_;rintro e w1 ⟨⟨q,s,rfl,hqs,hs,hq⟩,hext⟩;have hbel1:=hbel.trans (hext.mono hbel.size);have Hbk1:Hid (BkU w1 w.heap.size r):=Hbk.out.ext hext;have hci:=Hbk1.out.cell k (by rw [Hr.out];omega);have hfi:=Hbk1.out.frozen k;have Hset:=ZZ (Hbk1.out.set_ k q);have Hqs:=ZZ hqs;have Hq:=ZZ hq;clear hqs hq ea;go_wp2_with fail
   go_roundw
   case rel=>
    refine⟨k,s,r.set k q,by omega,by simp,rfl,hs,by rw [List.length_set,Hr.out],set_lt Hrl.out Hq.out k,Hset.out,hbel1.setCell (Nat.le_refl _) _,?_⟩;rw [drop_set_self r k q (by rw [Hr.out];omega),Hdx.out,num_cons,num_cons];exact by1_step (c:=0) Hnum.out Hqs.out
   case measure=>simp [intOf]
theorem dg_len_zero' {n:Nat}:(dg n).length=0↔n=0:=dg_len_zero
theorem Wd.grown {w w':World} {A:Option Addr} {k c n:Nat} {row:Option Nat} (h:Wd w (.slice A k c) n) (g:w.grownBy w' row) (hne:∀b o,A=some ⟨b,o,none⟩→some b≠row):Wd w' (.slice A k c) n:=by
 obtain⟨A',c',e,hc,hcl⟩:=h
 cases e
 refine⟨A,c,rfl,hc,?_⟩
 rcases hcl with h0|⟨b,o,hA,hce⟩
 ·exact .inl h0
 ·right
  refine⟨b,o,hA,fun j hj=>?_⟩;exact g.cell (hce j hj) (hne b o hA)
theorem info_str:(Tryz.prog.info? 9).map (fun i=>(i.zero,i.size,i.bytes))=some (some (.string ⟨#[]⟩),1,16):=by kernel_rfl
def PartsR (m k:Nat) (S:List (List UInt8)):Prop:=(k=0→S≠[]∧Lib.decDigits m=S.reverse.flatten)∧(0<k→Lib.decDigits m=Lib.decDigits k ++ S.reverse.flatten)∧k*10 ^ (18*S.length)≤m∧(k=0→S.length≤m)
theorem own_ext {w w':World} {B e size n:Nat} {v:Value} {xs:List Value} (h:w.ownsRow B e size v n xs) (k:Ext w w'):w'.ownsRow B e size v n xs:=by
 obtain⟨h1,h2⟩:=h;refine⟨h1,?_⟩
 rcases h2 with h2|⟨g,cap,cur,a,b,c,d⟩
 ·exact .inl h2
 ·exact .inr ⟨g,cap,cur,a,b,(k.block g (lt_of_block c)).trans c,d⟩
theorem own_lt {w:World} {B e size n:Nat} {v:Value} {xs:List Value} (h:w.ownsRow B e size v n xs) {b:Nat} (hb:v.ownBlock=some b):B≤b∧b<w.heap.size:=by
 obtain⟨h1,h2⟩:=h
 rcases h2 with ⟨rfl,-⟩|⟨g,cap,cur,rfl,h3,h4,-⟩
 ·simp [Value.ownBlock] at hb
 ·simp [Value.ownBlock] at hb
  subst hb;exact⟨h3,lt_of_block h4⟩
theorem app_ok {w wr w2 w3:World} {B n:Nat} {p v':Value} {xs:List Value} {o:Obj} {k2 c2 q:Nat} (hB:w.heap.size=B) (hex:Ext w wr) (hx:Ext wr w2) (hx1:wr.heap.size<w2.heap.size) (hown:wr.ownsRow B 9 1 p n xs) (hg:(w2.alloc o).grownBy w3 p.ownBlock) (hloc:v'.ownBlock=p.ownBlock∨v'.ownBlock=some (w2.alloc o).heap.size) (hq:Wd w2 (.slice (some ⟨wr.heap.size,0,none⟩) k2 c2) q):Wd w3 (.slice (some ⟨wr.heap.size,0,none⟩) k2 c2) q∧(∀b o',(some (⟨wr.heap.size,0,none⟩:Addr))=some ⟨b,o',none⟩→b<w3.heap.size∧some b≠v'.ownBlock)∧Ext w w3:=by
 have hsz:(w2.alloc o).heap.size=w2.heap.size+1:=by simp
 have hne:some wr.heap.size≠p.ownBlock:=fun e=>by have:=(own_lt hown e.symm).2;omega
 refine⟨(hq.mono (ab _ _)).grown hg (fun b o e=>by cases e;exact hne),fun b o' e=>?_,?_⟩
 ·cases e
  refine⟨by have:=hg.size;omega,?_⟩
  rcases hloc with h|h
  ·rw [h];exact hne
  ·rw [h];intro e;have:=Option.some.inj e;omega
 ·refine(al hex (al hx (ab w2 o))).grown hg ?_ (fun k hk=>?_)
  ·have:=hex.size;have:=hx.size;omega
  ·rw [hB];exact(own_lt hown hk).1
theorem str_append (a b:List UInt8):(⟨a.toArray⟩:ByteArray) ++ ⟨b.toArray⟩=⟨(a ++ b).toArray⟩:=by
 apply ByteArray.ext
 simp
theorem intercalate_nil (l:List (List UInt8)):[].intercalate l=l.flatten:=by
 induction l with
 | nil=>rfl
 | cons a l ih=>
  cases l with
  | nil=>simp [List.intercalate]
  | cons b t=>simp [List.intercalate,List.intersperse] at ih ⊢;exact ih
theorem repL (c:Nat):Lib.repeatL [48] c=List.replicate c 48:=by
 induction c with
 | zero=>rfl
 | succ c ih=>rw [Lib.repeatL,ih];rfl
theorem PartsR.start {m:Nat} (hm:0<m):PartsR m m []:=⟨fun h=>by omega,fun _=>by simp,by simp,fun h=>by omega⟩
theorem PartsR.zero {m k:Nat} {S:List (List UInt8)} (h:PartsR m k S) (hk:0<k) (hq:k / 10 ^ 18=0):PartsR m 0 (S ++ [Lib.decDigits (k % 10 ^ 18)]):=by
 have e:k % 10 ^ 18=k:=by have:=Nat.div_add_mod k (10 ^ 18);rw [hq] at this;omega
 have h1:=h.2.2.1
 have h2:S.length+1≤m:=by
  have a:S.length<2 ^ S.length:=Nat.lt_two_pow_self;have b:2 ^ S.length≤10 ^ (18*S.length):=Nat.le_trans (Nat.pow_le_pow_left (by decide) _) (Nat.pow_le_pow_right (by decide) (by omega));have c:1*10 ^ (18*S.length)≤k*10 ^ (18*S.length):=Nat.mul_le_mul_right _ hk;omega
 refine⟨fun _=>⟨by simp,?_⟩,fun h=>by omega,by simp,fun _=>by simpa using h2⟩;rw [e,List.reverse_append,List.reverse_singleton,List.singleton_append,List.flatten_cons];exact h.2.1 hk
theorem PartsR.step {m k:Nat} {S:List (List UInt8)} (h:PartsR m k S) (hk:0<k) (hq:0<k / 10 ^ 18):PartsR m (k / 10 ^ 18) (S ++ [padTo 18 (k % 10 ^ 18)]):=by
 refine⟨fun h=>by omega,fun _=>?_,?_,fun h=>by omega⟩
 ·rw [h.2.1 hk,List.reverse_append,List.reverse_singleton,List.singleton_append,List.flatten_cons,←List.append_assoc,←dec_split 18 _ _ (by decide) hq (Nat.mod_lt _ (Nat.pow_pos (by decide)))]
  congr 2
  have:=Nat.div_add_mod k (10 ^ 18)
  rw [Nat.mul_comm] at this;exact this.symm
 ·have e:k / 10 ^ 18*10 ^ (18*(S ++ [padTo 18 (k % 10 ^ 18)]).length)=(k / 10 ^ 18*10 ^ 18)*10 ^ (18*S.length):=by
   rw [List.length_append,List.length_singleton,Nat.mul_add,Nat.mul_one,Nat.pow_add,Nat.mul_assoc,Nat.mul_comm (10 ^ (18*S.length))]
  rw [e];exact Nat.le_trans (Nat.mul_le_mul_right _ (Nat.div_mul_le_self _ _)) h.2.2.1
theorem PartsR.lt {m k M:Nat} {S:List (List UInt8)} (h:PartsR m k S) (hk:0<k) (hm:m<2 ^ M):S.length<M:=by
 have b:2 ^ S.length≤10 ^ (18*S.length):=Nat.le_trans (Nat.pow_le_pow_left (by decide) _) (Nat.pow_le_pow_right (by decide) (by omega));have c:1*10 ^ (18*S.length)≤k*10 ^ (18*S.length):=Nat.mul_le_mul_right _ hk;have d:2 ^ S.length<2 ^ M:=by have:=h.2.2.1;omega
 exact(Nat.pow_lt_pow_iff_right (by decide)).1 d
theorem len18 (r:Nat) (h:r<10 ^ 18):(Lib.decDigits r).length≤18:=dec_length_le 18 r (by decide) h
theorem row_c (M:Nat) (hM:M≤1099511627776) (va:Value) (m:Nat) (w:World) (ha:Wd w va m) (hm:m<2 ^ M) (htab:Tens w):Calls Tryz.prog 47 #[va] w fun e w'=>e=.returned (.string ⟨(Lib.decDigits m).toArray⟩)∧Ext w w':=by
 have ha0:=ha;obtain⟨A,k,c,rfl⟩:=ha.form';have hlen:=ha.len;have Sm0:=ZZ (sm_of_lt hm (by omega));have HM:=ZZ hM;have Hm:=ZZ hm;have HT:=ZZ htab;have HA:=ZZ ha
 rcases Nat.eq_zero_or_pos m with h0|h0
 ·subst h0
  rw [dg_zero] at hlen;obtain rfl:k=0:=hlen.symm;clear ha ha0 hlen hm hM htab
  go_enter Tryz.func47,Tryz.ntmps47
  go_wp2_with fail;go_ret
  exact⟨by rw [dec_zero];rfl,ae _⟩
 ·have hk0:¬ k=0:=fun e=>by rw [e,dg_len_zero'] at hlen;omega
  have t1:((k:Int) == 0)=false:=by rw [beq_eq_false_iff_ne];omega
  have hsep:∀b o,A=some ⟨b,o,none⟩→b<w.heap.size:=by
   intro b o e;obtain⟨A',c',e',hc,hcl⟩:=ha0
   cases e'
   obtain⟨b',o',hA,hce⟩:=hcl.at_ (by simp;omega);rw [e] at hA
   cases hA
   exact block_lt_of_cell (hce 0 (by simp;omega))
  have HS:=ZZ hsep;have H0:=ZZ h0;clear ha ha0 hlen hm hM htab hk0 hsep;obtain⟨i0,hi,hz0,hz1,hz2⟩:=info_parts info_str
  go_enter Tryz.func47,Tryz.ntmps47
  go_wp2_with fail
  go_loopg [0,3] m (fun k a p wr=>∃(S:List (List UInt8)) (A:Option Addr) (n c:Nat),a=.slice A n c∧Wd wr (.slice A n c) k∧k≤m∧wr.ownsRow w.heap.size 9 1 p S.length (S.map encStr)∧PartsR m k S∧S.length≤M∧(∀b o,A=some ⟨b,o,none⟩→b<wr.heap.size∧some b≠p.ownBlock)∧Ext w wr)
  case atStart=>exact⟨[],A,k,c,rfl,HA.out,Nat.le_refl _,World.ownsRow_nil _ _ _ _,PartsR.start H0.out,Nat.zero_le _,fun b o e=>⟨HS.out b o e,by simp [Value.ownBlock]⟩,ae _⟩
  case round=>
   obtain⟨S,A1,n1,cc1,rfl,hN,hkm,hown,hP,hSM,hsep,hext⟩:=hrel;have HN:=ZZ hN;have HOWN:=ZZ hown;have HP:=ZZ hP;have HSM:=ZZ hSM;have HSEP:=ZZ hsep;have HEX:=ZZ hext;have HKM:=ZZ hkm;have hlen:=hN.len;clear hN hP hSM hsep hext hkm
   rcases Nat.eq_zero_or_pos gk with hz|hz
   ·subst hz
    rw [dg_zero] at hlen;obtain rfl:n1=0:=hlen.symm;obtain⟨hSne,hfin⟩:=HP.out.1 rfl;obtain⟨hl,h2⟩:=hown
    rcases h2 with ⟨-,hn0⟩|⟨g,cap,cur,rfl,hg,hblk,hnc,hcm,hsz,htk⟩
    ·exact absurd (List.length_eq_zero_iff.1 hn0) hSne
    ·have hHolds:Holds encStr wr g 0 S.toArray:=by
      intro j hj;have hj':j<S.length:=by simpa using hj
      refine⟨?_,frozen_of_row _ _ _ _ _ hblk⟩;rw [cell_of_row _ _ _ _ _ _ hblk];have h3:(cur.toList.take (S.length*1))[j]?=some (encStr S[j]):=by rw [htk];simp [hj']
      rw [List.getElem?_take_of_lt (by omega)] at h3
      simp only [Nat.zero_add]
      rw [←Array.getElem?_toList,h3]
      simp [hj']
     have hrev:=Tryz.slices_Reverse_string g 0 cap S wr hHolds (by unfold maxLen at hcm;omega);have HREV:=ZZ hrev;have HH:=ZZ hHolds;have HFIN:=ZZ hfin;have HG:=ZZ hg;have HNC:=ZZ hnc;have HB:=ZZ (lt_of_block hblk);have HCM:=ZZ hcm;clear hlen hSne hfin hl hg hblk hnc hcm hsz htk hHolds hrev;go_wp2_with fail;refine HREV.out.mono ?_;rintro e w1 ⟨rfl,q,rfl⟩;have hb1:Ext w (putRow encStr (Sort.ahead wr q) g 0 S.reverse.toArray):=Lib.below_putRow HEX.out HG.out;have HB1:=ZZ hb1
     have hcells:∀(j:Nat) x,((S.reverse.map fun l=>(⟨l.toArray⟩:ByteArray))[j]?)=some x→(putRow encStr (Sort.ahead wr q) g 0 S.reverse.toArray).cell? ⟨g,0+j,none⟩=some (.string x):=by
      intro j x hx
      have hj:j<S.reverse.length:=by
       rcases Nat.lt_or_ge j S.reverse.length with h|h
       ·exact h
       ·rw [List.getElem?_eq_none (by simpa using h)] at hx;cases hx
      have hH2:Holds encStr (Sort.ahead wr q) g 0 S.toArray:=HH.out;rw [cell?_putRow encStr (Sort.ahead wr q) g 0 S.toArray S.reverse.toArray hH2 (by simp) j (by simpa using hj)];rw [List.getElem?_map,List.getElem?_eq_getElem hj] at hx
      simp only [Option.map_some,Option.some.injEq] at hx
      rw [←hx,getElem!_pos _ _ (by simpa using hj)]
      simp [encStr]
     have hgl:g<(putRow encStr (Sort.ahead wr q) g 0 S.reverse.toArray).heap.size:=by
      have h5:=HB.out
      simpa [putRow,mapBlock,Sort.ahead] using h5
     have hjn:(Lib.join ((S.reverse.map fun l=>(⟨l.toArray⟩:ByteArray)).map (·.data.toList)) (ByteArray.mk #[]).data.toList)=S.reverse.flatten:=by
      have e1:(S.reverse.map fun l=>(⟨l.toArray⟩:ByteArray)).map (·.data.toList)=S.reverse:=by
       rw [List.map_map];exact(List.map_congr_left (fun a _=>by simp)).trans (List.map_id _)
      rw [e1]
      show [].intercalate S.reverse=_
      exact intercalate_nil _
     have hdl:(Lib.decDigits m).length≤M+1:=dec_length_le (M+1) m (by omega) (by
      have h6:=Hm.out;have h7:2 ^ M≤10 ^ M:=Nat.pow_le_pow_left (by decide) _;have h8:10 ^ M≤10 ^ (M+1):=Nat.pow_le_pow_right (by decide) (by omega)
      omega)
     have hM:=HM.out;have hSM:=HSM.out;have hJ:=Tryz.strings_Join g 0 cap (S.reverse.map fun l=>(⟨l.toArray⟩:ByteArray)) ⟨#[]⟩ _ hcells hgl (by simp;omega) (by simpa using HNC.out) (by rw [hjn,←HFIN.out];omega);rw [hjn,←HFIN.out] at hJ;have hlr:(S.reverse.map fun l=>(⟨l.toArray⟩:ByteArray)).length=S.length:=by simp
     rw [hlr] at hJ;have HJ:=ZZ hJ;clear hcells hgl hjn hdl hM hSM hJ hb1 hlr;go_wp2_with fail;refine HJ.out.mono ?_;rintro e w2 ⟨rfl,h9⟩;have H9:=ZZ h9;clear h9;go_wp2_with fail;go_ret;exact⟨rfl,al HB1.out H9.out⟩
   ·have hn1:0<n1:=by
     rcases Nat.eq_zero_or_pos n1 with h|h
     ·rw [h] at hlen;have:=dg_len_zero.1 hlen;omega
     ·exact h
    have t4:(0:Int)<(n1:Int):=by omega
    have HZ0:=ZZ hz;have Sk:=ZZ (sm_lt HKM.out Sm0.out);clear hz hlen hn1 hown;go_wp2_with fail;refine(by1_f _ gk 1000000000000000000 wr HN.out Sk.out (by decide) (by decide)).mono ?_;rintro e w1 ⟨⟨k2,c2,r,rfl,hr,hq⟩,hx1,hf1⟩;have HR:=ZZ hr;have HQ:=ZZ hq;have HX1:=ZZ hx1;have HF1:=ZZ hf1;clear hf1;have hrl:r<1000000000000000000:=by rw [hr];exact Nat.mod_lt _ (by decide)
    have HRL:=ZZ hrl;clear hr hq hx1 hrl;go_wp2_with fail;refine(fmt_c r (by have:=HRL.out;omega) w1 (HT.out.mono (al HEX.out HX1.out))).mono ?_;rintro e w2 ⟨rfl,hx2⟩;have HX2:=ZZ hx2;clear hx2
    rcases Nat.eq_zero_or_pos (gk / 1000000000000000000) with hq0|hq0
    ·have hk2:=HQ.out.len
     rw [hq0,dg_zero] at hk2;obtain rfl:k2=0:=hk2.symm;have HQ0:=ZZ hq0;clear hq0 hk2
     have hfresh:wr.heap.size<w2.heap.size:=by
      have h1:=HF1.out;have h2:=HX2.out.size;omega
     have hxx:=al HX1.out HX2.out;have hx1s:=HX1.out.size;have hx2s:=HX2.out.size;have hown2:=own_ext HOWN.out hxx;have HO2:=ZZ hown2;have HXX:=ZZ hxx;have hsm:=HSM.out;have hMM:=HM.out;have hws:=ZZ (show w.heap.size≤w2.heap.size+1 by have:=HEX.out.size;omega);have hpl:=HP.out.lt HZ0.out Hm.out;have h63:S.length+1≤maxLen:=by unfold maxLen;omega
     have hby:(S.length+1)*16≤140737488355328:=by omega
     have hlt12:=ZZ hfresh;have HPL:=ZZ hpl;have H63:=ZZ h63
     have HBY:=ZZ hby
     clear hxx hown2 hsm hMM hpl h63 hby hx1s hx2s hfresh
     go_wp2_with (at_builtin;refine wpList_append_own_at _ rfl _ _ 120 rfl w.heap.size 9 i0 (.string ⟨#[]⟩) 1 16 Tryz.underlying120 hi hz0 hz1 hz2 rfl (by decide) _ _ _ rfl (HO2.out.alloc _) ⟨w2.heap.size,0,none⟩ 1 1 [encStr (Lib.decDigits r)] rfl rfl (cell_one_new _ _ _) (by intro u hu;simp at hu;subst hu;rfl) H63.out HBY.out (by simpa using hws.out) ?_;intro v' w3 hown3 hgrow hnil hloc)
     obtain⟨hA3,hS3,hE3⟩:=app_ok rfl HEX.out HXX.out hlt12.out HOWN.out hgrow hloc (HQ.out.mono HX2.out);have HA3:=ZZ hA3;have HS3:=ZZ hS3;have HE3:=ZZ hE3;have HO3:=ZZ hown3;clear hA3 hS3 hE3 hown3 hgrow hnil hloc;go_wp2_with fail
     go_roundg (gk / 1000000000000000000)
     case measure=>exact Nat.div_lt_self HZ0.out (by decide)
     case rel=>exact⟨S ++ [(Lib.decDigits r)],_,_,_,rfl,HA3.out,Nat.le_trans (Nat.div_le_self _ _) HKM.out,by rw [List.map_append,List.length_append];exact HO3.out,by rw [HQ0.out,HR.out];exact HP.out.zero HZ0.out HQ0.out,by rw [List.length_append];have:=HPL.out;simp;omega,HS3.out,HE3.out⟩
    ·have hk2:=HQ.out.len
     have hk3:0<k2:=by
      rcases Nat.eq_zero_or_pos k2 with h|h
      ·rw [h] at hk2;have:=dg_len_zero.1 hk2;omega
      ·exact h
     have t5:(0:Int)<(k2:Int):=by omega
     have HQ0:=ZZ hq0;clear hq0 hk2 hk3;have h18:=len18 r HRL.out;have HL18:=ZZ h18;obtain⟨cc,hcc⟩:∃cc:Nat,cc=18 - (Lib.decDigits r).length:=⟨_,rfl⟩;have u7:IntKind.i64.wrap (18 - ((Lib.decDigits r).length:Int))=(cc:Int):=(IntWalk.i64_in _ (by omega)).trans (by omega);have u8:(18 - ((Lib.decDigits r).length:Int))=(cc:Int):=by omega
     have HCC:=ZZ hcc;clear hcc h18;go_wp2_with fail;refine(Tryz.strings_Repeat ⟨#[48]⟩ cc w2 (by have:=HCC.out;omega) (by have:=HCC.out;show 1*cc≤_;omega)).mono ?_;rintro e w4 ⟨rfl,hx4⟩;have HX4:=ZZ hx4;clear hx4
     have hst:(⟨(Lib.repeatL [48] cc).toArray⟩:ByteArray) ++ ⟨(Lib.decDigits r).toArray⟩=⟨(padTo 18 r).toArray⟩:=by
      rw [str_append,repL,HCC.out];rfl
     have hcat:(Lib.repeatL [48] cc).length+(Lib.decDigits r).length≤9223372036854775807:=by
      rw [repL]
      have:=HL18.out
      have:=HCC.out
      simp;omega
     have hcat2:((Lib.repeatL [48] cc).length:Int)+((Lib.decDigits r).length:Int)≤9223372036854775807:=by omega
     have hfresh:wr.heap.size<w4.heap.size:=by
      have h1:=HF1.out;have h2:=HX2.out.size;have h3:=HX4.out.size;omega
     have hxx:=al HX1.out (al HX2.out HX4.out);have hx1s:=HX1.out.size;have hx2s:=HX2.out.size;have hx4s:=HX4.out.size;have hown2:=own_ext HOWN.out hxx;have HO2:=ZZ hown2;have HXX:=ZZ hxx;have hsm:=HSM.out;have hMM:=HM.out;have hws:=ZZ (show w.heap.size≤w4.heap.size+1 by have:=HEX.out.size;omega);have hpl:=HP.out.lt HZ0.out Hm.out;have h63:S.length+1≤maxLen:=by unfold maxLen;omega
     have hby:(S.length+1)*16≤140737488355328:=by omega
     have hlt12:=ZZ hfresh;have HPL:=ZZ hpl;have H63:=ZZ h63
     have HBY:=ZZ hby
     clear hxx hown2 hsm hMM hpl h63 hby hx1s hx2s hx4s hfresh
     go_wp2_with (at_builtin;refine wpList_append_own_at _ rfl _ _ 120 rfl w.heap.size 9 i0 (.string ⟨#[]⟩) 1 16 Tryz.underlying120 hi hz0 hz1 hz2 rfl (by decide) _ _ _ rfl (HO2.out.alloc _) ⟨w4.heap.size,0,none⟩ 1 1 [encStr (padTo 18 r)] rfl rfl (cell_one_new _ _ _) (by intro u hu;simp at hu;subst hu;rfl) H63.out HBY.out (by simpa using hws.out) ?_;intro v' w3 hown3 hgrow hnil hloc)
     obtain⟨hA3,hS3,hE3⟩:=app_ok rfl HEX.out HXX.out hlt12.out HOWN.out hgrow hloc (HQ.out.mono (al HX2.out HX4.out));have HA3:=ZZ hA3;have HS3:=ZZ hS3;have HE3:=ZZ hE3;have HO3:=ZZ hown3;clear hA3 hS3 hE3 hown3 hgrow hnil hloc;go_wp2_with fail
     go_roundg (gk / 1000000000000000000)
     case measure=>exact Nat.div_lt_self HZ0.out (by decide)
     case rel=>exact⟨S ++ [(padTo 18 r)],_,_,_,rfl,HA3.out,Nat.le_trans (Nat.div_le_self _ _) HKM.out,by rw [List.map_append,List.length_append];exact HO3.out,by rw [HR.out];exact HP.out.step HZ0.out HQ0.out,by rw [List.length_append];have:=HPL.out;simp;omega,HS3.out,HE3.out⟩
end Go.Proofs.YtkoaakefgacokaaGreatDoor
