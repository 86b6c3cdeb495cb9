/- Texts: rows of digits. Texts: the number that decimal digits are. Texts: the numeral of one word. Texts: the decimal digits of a natural number. Texts: cut at a byte. -/
import Derived.Test.YtpgdefgdboijlaaGreatDoorShelf
import Derived.Test.YtpgdefgdboijlaaGreatDoorWj
import Derived.Test.YtpgdefgdboijlaaGreatDoorNa
import Derived.Shelf.Strings.SlTrimAscii
import Derived.Test.YtpgdefgdboijlaaGreatDoorNh
import Derived.Lib.OthersKept
import Derived.Deep.LoopGhost
import Derived.Lib.ItoaMem
import Derived.Lib.AppendIntMem
import Derived.Maps.AppendAt
import Derived.OwnWalk
import Derived.Lib.OwnBridge
import Derived.Deep.QuietTactic
import Derived.BigQuiet
set_option linter.unusedVariables false
set_option maxRecDepth 100000
set_option maxHeartbeats 16000000
namespace Go.Proofs.YtpgdefgdboijlaaGreatDoor
open Go.RowKit
def cs10:List UInt8:=[48,49,50,51,52,53,54,55,56,57]
theorem cs10_dig (c:UInt8):cs10.contains c=isDig c:=by
 rw [Bool.eq_iff_iff,isDig_iff]
 constructor
 ·intro h
  simp [cs10] at h
  rcases h with rfl|rfl|rfl|rfl|rfl|rfl|rfl|rfl|rfl|rfl <;> decide
 ·intro h
  have:∀k:Nat,48≤k→k≤57→cs10.contains (UInt8.ofNat k)=true:=by
   intro k h1 h2
   have:k=48∨k=49∨k=50∨k=51∨k=52∨k=53∨k=54∨k=55∨k=56∨k=57:=by omega
   rcases this with rfl|rfl|rfl|rfl|rfl|rfl|rfl|rfl|rfl|rfl <;> decide
  have h3:=this c.toNat h.1 h.2
  rwa [UInt8.ofNat_toNat] at h3
theorem dropWhile_empty (p:UInt8→Bool) (l:List UInt8):(l.dropWhile p).isEmpty=l.all p:=by
 induction l with
 | nil=>rfl
 | cons a l ih=>
  rw [List.dropWhile_cons]
  split
  ·rename_i h;rw [ih,List.all_cons,h,Bool.true_and]
  ·rename_i h;simp [h]
theorem all_dropWhile (p:UInt8→Bool) (l:List UInt8):(l.dropWhile p).all p=l.all p:=by
 induction l with
 | nil=>rfl
 | cons a l ih=>
  rw [List.dropWhile_cons]
  split
  ·rename_i h;rw [ih,List.all_cons,h,Bool.true_and]
  ·rfl
theorem trim_digits (l:List UInt8):(Lib.trimS l cs10).isEmpty=l.all isDig:=by
 unfold Lib.trimS Lib.trimLeftS Lib.trimRightS;rw [dropWhile_empty,List.all_reverse,all_dropWhile,List.all_reverse]
 congr 1
 funext c
 exact cs10_dig c
def digB (l:List UInt8):Bool:=!l.isEmpty && l.all isDig
def plainB (l:List UInt8):Bool:=digB l && (l == [48] || l.head? != some 48)
theorem plain_cons {c:UInt8} {t:List UInt8} (h:digB (c :: t)=true):(c == 48 && t.isEmpty || ((c.toNat:Int) != 48))=plainB (c :: t):=by
 unfold plainB;rw [h,Bool.true_and]
 congr 1
 ·cases t <;> simp
 ·rw [Bool.eq_iff_iff]
  simp only [bne_iff_ne,List.head?_cons,ne_eq,Option.some.injEq]
  constructor
  ·intro h e;exact h (by rw [e];rfl)
  ·intro h e;exact h (UInt8.toNat_inj.1 (by have:(48:UInt8).toNat=48:=rfl;omega))
theorem digits_c (l:List UInt8) (hs:l.length≤9223372036854775807) (w:World):Calls Tryz.prog 102 #[.string ⟨l.toArray⟩] w fun e w'=>e=.returned (.bool (digB l))∧Ext w w':=by
 have h:=Any.strings_Trim_laid Tryz.lays160 (by kernel_rfl) ⟨l.toArray⟩ ⟨#[48,49,50,51,52,53,54,55,56,57]⟩ w hs (by decide) (ascii_of_all (by decide));have h2:=trim_digits l;unfold cs10 at h2
 change Calls Tryz.prog _ _ _ (fun e w'=>e=.returned (.string ⟨(Lib.trimS l [48,49,50,51,52,53,54,55,56,57]).toArray⟩)∧Below w.heap.size w w') at h
 generalize Lib.trimS l [48,49,50,51,52,53,54,55,56,57]=t at h h2;have H:=ZZ h;have H2:=ZZ h2;clear h h2
 rcases Decidable.em (l=[]) with h0|h0
 ·subst h0
  go_enter Tryz.func102,Tryz.ntmps102
  go_wp2_with fail;go_ret
  exact⟨rfl,ad _⟩
 ·go_enter Tryz.func102,Tryz.ntmps102
  go_wp2_with fail;refine H.out.mono ?_
  rintro e w1 ⟨rfl,h1⟩;have H1:=ZZ h1;clear h1;go_wp2_with fail;go_ret;refine⟨?_,H1.out⟩;unfold digB;rw [←H2.out]
  rfl
theorem plain_c (l:List UInt8) (hs:l.length≤9223372036854775807) (w:World):Calls Tryz.prog 131 #[.string ⟨l.toArray⟩] w fun e w'=>e=.returned (.bool (plainB l))∧Ext w w':=by
 have hd:=digits_c l hs w
 rcases hb:digB l with _|_
 ·rw [hb] at hd
  have H:=ZZ hd;have HB:=ZZ hb;clear hd hb
  go_enter Tryz.func131,Tryz.ntmps131
  go_wp2_with fail;refine H.out.mono ?_
  rintro e w1 ⟨rfl,h1⟩;have H1:=ZZ h1;clear h1;go_wp2_with fail;go_ret;exact⟨by unfold plainB;rw [HB.out];rfl,H1.out⟩
 ·cases l with
  | nil=>simp [digB] at hb
  | cons c t=>
   rw [hb] at hd;have H:=ZZ hd;have HB:=ZZ hb;clear hd hb
   rcases Decidable.em (c=48) with hc|hc
   ·subst hc
    rcases Decidable.em (t=[]) with ht|ht
    ·subst ht
     go_enter Tryz.func131,Tryz.ntmps131
     go_wp2_with fail;refine H.out.mono ?_
     rintro e w1 ⟨rfl,h1⟩;have H1:=ZZ h1;clear h1;go_wp2_with fail;go_ret;exact⟨by rw [←plain_cons HB.out];rfl,H1.out⟩
    ·go_enter Tryz.func131,Tryz.ntmps131
     go_wp2_with fail;refine H.out.mono ?_
     rintro e w1 ⟨rfl,h1⟩;have H1:=ZZ h1;clear h1;go_wp2_with fail;go_ret;exact⟨by rw [←plain_cons HB.out];rfl,H1.out⟩
   ·go_enter Tryz.func131,Tryz.ntmps131
    go_wp2_with fail;refine H.out.mono ?_
    rintro e w1 ⟨rfl,h1⟩;have H1:=ZZ h1;clear h1;go_wp2_with fail;go_ret;exact⟨by rw [←plain_cons HB.out];rfl,H1.out⟩
end Go.Proofs.YtpgdefgdboijlaaGreatDoor
namespace Go.Proofs.YtpgdefgdboijlaaGreatDoor
open Go.RowKit
theorem Wd.iterAt {W:World} {v:Value} {n g:Nat} {s:ByteArray} {pos:Nat} (h:Wd W v n) (hg:W.heap[g]?=some (.stringIter s pos)) (p:Nat):Wd (W.iterAt g s p) v n:=by
 obtain⟨A,c,e,hc,hcl⟩:=h;refine⟨A,c,e,hc,?_⟩
 rcases Nat.eq_zero_or_pos (dg n).length with h0|h0
 ·left;rw [List.length_eq_zero_iff.1 h0];rfl
 ·obtain⟨bl,o,hA,hce⟩:=hcl.at_ (by simpa using h0)
  right
  refine⟨bl,o,hA,fun j hj=>?_⟩;have hj':j<(dg n).length:=by simpa using hj
  have h1:=hce j hj
  have hne:bl≠g:=by
   intro hb;subst hb;rw [getD_map_u64 _ _ hj'] at h1
   simp [World.cell?,hg] at h1
  rw [←h1]
  apply World.cell?_of_block
  exact Lib.iterAt_other _ _ _ _ _ hne
theorem natOf_take_succ (l:List UInt8) (p:Nat) (h:p<l.length):natOf (l.take (p+1))=10*natOf (l.take p)+((l[p]'h).toNat - 48):=by
 rw [List.take_succ_eq_append_getElem h,natOf_snoc]
theorem dig_bits (l:List UInt8) (h:∀c ∈ l,isDig c=true):natOf l<2 ^ (4*l.length+1):=
 Nat.lt_trans (natOf_lt l h) (ten_lt _)
theorem word_c' (k:Nat) (z:Int) (hz:z=(k:Int)) (hk:k<B64) (w:World):Calls Tryz.prog 117 #[.int .u64 z] w fun e w'=>∃v,e=.returned v∧Wd w' v k∧Ext w w':=by
 subst hz;exact word_c k hk w
def U64ok (p f:Nat):Prop:=p<f∧∃r,r<18∧f=10 ^ r
theorem U64ok.le {p f:Nat} (h:U64ok p f):f≤100000000000000000:=by
 obtain⟨-,r,hr,rfl⟩:=h;exact(Nat.pow_le_pow_right (by decide) (show r≤17 by omega):10 ^ r≤10 ^ 17)
theorem U64ok.next {p f d:Nat} (h:U64ok p f) (hd:d<10):10*f=1000000000000000000∨U64ok (10*p+d) (10*f):=by
 obtain⟨h1,r,hr,rfl⟩:=h
 rcases(show r=17∨r+1<18 by omega) with e|e
 ·left;subst e;rfl
 ·exact .inr ⟨by omega,r+1,e,by rw [Nat.pow_succ,Nat.mul_comm]⟩
theorem taken_c (l:List UInt8) (hl:∀c ∈ l,isDig c=true) (hs:l.length≤1073741824) (w:World):Calls Tryz.prog 104 #[.string ⟨l.toArray⟩] w fun e w'=>∃v,e=.returned v∧Wd w' v (natOf l)∧Ext w w':=by
 have HL:=ZZ hl;have HSZ:=ZZ hs
 have hbd:=ZZ (show ∀p N,N≤natOf (l.take p)→Sm N from fun p N hN=>by
  have h1:=dig_bits (l.take p) (fun c hc=>hl c (List.mem_of_mem_take hc));have h2:(l.take p).length≤1073741824:=by rw [List.length_take];omega
  exact sm_lt hN (sm_of_lt h1 (by omega)))
 clear hl hs;have hz0:(ByteArray.mk l.toArray).size=l.length:=rfl;have HSI:=ZZ hz0;clear hz0
 go_enter Tryz.func104,Tryz.ntmps104
 go_wp2_with fail
 go_loopg [3,4,5] l.length (fun k o p f wr=>∃(pos N p' f':Nat),pos+k=l.length∧p=.int .u64 (p':Int)∧f=.int .u64 (f':Int)∧Wd wr o N∧N*f'+p'=natOf (l.take pos)∧U64ok p' f'∧wr.heap[w.heap.size]?=some (.stringIter ⟨l.toArray⟩ pos)∧Ext w wr)
 case atStart=>exact⟨0,0,0,1,by omega,rfl,rfl,Wd.zero _,rfl,⟨by omega,0,by omega,rfl⟩,World.iter_heap w _ 0,(Below.refl _ _).alloc (Nat.le_refl _) _⟩
 case round=>
  obtain⟨pos,N,p',f',hpos,rfl,rfl,hN,hv,hok,hit,hext⟩:=hrel;obtain⟨P1,p1,c1,rfl⟩:=hN.form';have HN:=ZZ hN;have HV:=ZZ hv;have HOK:=ZZ hok;have HIT:=ZZ hit;have HEX:=ZZ hext;have HPOS:=ZZ hpos;have hfle:=hok.le;have hplt:=hok.1;clear hN hv hok hit hext
  rcases Nat.eq_zero_or_pos gk with hz|hz
  ·subst hz
   obtain rfl:pos=l.length:=by omega
   have hnx:∀ty,(Instr.next (.pointer (some ⟨w.heap.size,0,none⟩)) true ty).run Tryz.prog wr=_:=fun ty=>Lib.run_next_end_at wr w.heap.size ⟨l.toArray⟩ l.length ty HIT.out (by rw [HSI.out];omega);have Fl:=ZZ (show f'<B64 by rw [B64_eq];omega);have Pl:=ZZ (show p'<B64 by rw [B64_eq];omega);have V:=HV.out;rw [List.take_length] at V
   have Sn:=ZZ (hbd.out l.length N (by
    rw [List.take_length,←V];have h1:N*1≤N*f':=Nat.mul_le_mul_left _ (by omega)
    omega))
   have Snf:=ZZ (hbd.out l.length (N*f') (by rw [List.take_length];omega));have VV:=ZZ V;clear V hpos hfle hplt;go_wp2_with fail;refine(word_c f' Fl.out _).mono ?_;rintro e w1 ⟨v1,rfl,h1,k1⟩;have G1:=ZZ h1;have K1:=ZZ k1;clear h1 k1 hnx;go_wp2_with fail;refine(mul_c _ _ _ _ _ (HN.out.mono K1.out) G1.out Sn.out (sm_small _ (Nat.lt_of_lt_of_le Fl.out (by rw [B64_eq];decide)))).mono ?_;rintro e w2 ⟨v2,rfl,h2,k2⟩;have G2:=ZZ h2;have K2:=ZZ k2;clear h2 k2;go_wp2_with fail;refine(word_c p' Pl.out _).mono ?_;rintro e w3 ⟨v3,rfl,h3,k3⟩;have G3:=ZZ h3;have K3:=ZZ k3;clear h3 k3;go_wp2_with fail;refine(add_c _ _ _ _ _ (G2.out.mono K3.out) G3.out Snf.out (sm_small _ (Nat.lt_of_lt_of_le Pl.out (by rw [B64_eq];decide)))).mono ?_;rintro e w4 ⟨v4,rfl,h4,k4⟩;have G4:=ZZ h4;have K4:=ZZ k4;clear h4 k4;go_wp2_with fail;go_ret;refine⟨_,rfl,?_,al HEX.out (al K1.out (al K2.out (al K3.out K4.out)))⟩;rw [←VV.out];exact G4.out
  ·have hp:pos<(ByteArray.mk l.toArray).size:=by rw [HSI.out];omega
   have hpl:pos<l.length:=by omega
   have hdg:=(isDig_iff _).1 (HL.out (l[pos]'hpl) (List.getElem_mem hpl))
   have hnx:∀ty,(Instr.next (.pointer (some ⟨w.heap.size,0,none⟩)) true ty).run Tryz.prog wr=_:=fun ty=>Lib.run_next_ascii_at wr w.heap.size ⟨l.toArray⟩ pos ty HIT.out hp (by
    show (l[pos]'hpl).toNat<128
    omega)
   have hcv:((ByteArray.mk l.toArray)[pos]'hp).toNat=(l[pos]'hpl).toNat:=rfl;rw [hcv] at hnx;have hst:=natOf_take_succ l pos hpl;obtain⟨d,hd⟩:∃d,d=(l[pos]'hpl).toNat - 48:=⟨_,rfl⟩;obtain⟨c,hc⟩:∃c,c=(l[pos]'hpl).toNat:=⟨_,rfl⟩;rw [←hd] at hst;rw [←hc] at hnx hdg;rw [←hc] at hd;have hd10:d<10:=by omega
   have HST:=ZZ hst;have HNEXT:=ZZ (HOK.out.next hd10);have hit2:=Lib.iterAt_heap wr w.heap.size ⟨l.toArray⟩ pos (pos+1) HIT.out;have hex2:=Lib.below_iterAt HEX.out (k:=w.heap.size) (Nat.le_refl _) ⟨l.toArray⟩ (pos+1);have hN2:=HN.out.iterAt HIT.out (pos+1);obtain⟨W1,hW1⟩:∃W1,W1=wr.iterAt w.heap.size ⟨l.toArray⟩ (pos+1):=⟨_,rfl⟩;rw [←hW1] at hnx hit2 hex2 hN2;have HIT2:=ZZ hit2;have HEX2:=ZZ hex2;have HN2:=ZZ hN2;have u1:IntKind.i32.wrap ((c:Int) - 48)=(d:Int):=(IntWalk.i32_in _ (by omega)).trans (by omega);have u2:IntKind.u64.wrap (d:Int)=(d:Int):=IntWalk.u64_in _ (by omega);have u3:IntKind.u64.wrap (10*(p':Int))=10*(p':Int):=IntWalk.u64_in _ (by omega);have u4:IntKind.u64.wrap (10*(p':Int)+(d:Int))=10*(p':Int)+(d:Int):=IntWalk.u64_in _ (by omega);have u5:IntKind.u64.wrap (10*(f':Int))=10*(f':Int):=IntWalk.u64_in _ (by omega);have hlt2:=ZZ (show 10*p'+d<1000000000000000000 by omega);have U1:=ZZ u1;have U2:=ZZ u2;have U3:=ZZ u3;have U4:=ZZ u4;have U5:=ZZ u5;have HZ0:=ZZ hz;clear hW1 hst hit2 hex2 hN2 hpos u1 u2 u3 u4 u5 hd hc hcv hfle hplt hdg hz hp hpl hd10;have u1:=U1.out;have u2:=U2.out;have u3:=U3.out;have u4:=U4.out;have u5:=U5.out
   rcases Decidable.em (10*f'=1000000000000000000) with hf|hf
   ·have t1:(10*(f':Int) == 1000000000000000000)=true:=by rw [beq_iff_eq];omega
    have Fl:=ZZ (show 10*f'<B64 by rw [B64_eq];omega);have Pl:=ZZ (show 10*p'+d<B64 by rw [B64_eq];have:=hlt2.out;omega)
    have hval:N*(10*f')+(10*p'+d)=natOf (l.take (pos+1)):=by
     rw [HST.out,←HV.out]
     have:N*(10*f')=10*(N*f'):=by rw [Nat.mul_left_comm]
     omega
    have Sn:=ZZ (hbd.out (pos+1) N (by
     rw [←hval];have h1:N*1≤N*(10*f'):=Nat.mul_le_mul_left _ (by omega)
     omega))
    have Snf:=ZZ (hbd.out (pos+1) (N*(10*f')) (by rw [←hval];omega));have HVAL:=ZZ hval;have HF:=ZZ hf;clear hval hf;go_wp2_with fail;refine(word_c' (10*f') _ (by push_cast;rfl) Fl.out _).mono ?_;rintro e w1 ⟨v1,rfl,h1,k1⟩;have G1:=ZZ h1;have K1:=ZZ k1;clear h1 k1 hnx;go_wp2_with fail;refine(mul_c _ _ _ _ _ (HN2.out.mono K1.out) G1.out Sn.out (sm_small _ (Nat.lt_of_lt_of_le Fl.out (by rw [B64_eq];decide)))).mono ?_;rintro e w2 ⟨v2,rfl,h2,k2⟩;have G2:=ZZ h2;have K2:=ZZ k2;clear h2 k2;go_wp2_with fail;refine(word_c' (10*p'+d) _ (by push_cast;rfl) Pl.out _).mono ?_;rintro e w3 ⟨v3,rfl,h3,k3⟩;have G3:=ZZ h3;have K3:=ZZ k3;clear h3 k3;go_wp2_with fail;refine(add_c _ _ _ _ _ (G2.out.mono K3.out) G3.out Snf.out (sm_small _ (Nat.lt_of_lt_of_le Pl.out (by rw [B64_eq];decide)))).mono ?_;rintro e w4 ⟨v4,rfl,h4,k4⟩;have G4:=ZZ h4;have K4:=ZZ (al K1.out (al K2.out (al K3.out k4)));clear h4 k4;go_wp2_with fail
    go_roundg (gk - 1)
    case measure=>have:=HZ0.out;omega
    case rel=>exact⟨pos+1,_,0,1,by have:=HPOS.out;have:=HZ0.out;omega,rfl,rfl,G4.out,by rw [←HVAL.out];omega,⟨by omega,0,by omega,rfl⟩,(K4.out.block _ (lt_of_block HIT2.out)).trans HIT2.out,al HEX2.out K4.out⟩
   ·have t1:(10*(f':Int) == 1000000000000000000)=false:=by rw [beq_eq_false_iff_ne];omega
    have HF:=ZZ hf;clear hf;go_wp2_with fail
    go_roundg (gk - 1)
    case measure=>have:=HZ0.out;omega
    case rel=>exact⟨pos+1,N,10*p'+d,10*f',by have:=HPOS.out;have:=HZ0.out;omega,by push_cast;rfl,by push_cast;rfl,HN2.out,by
     rw [HST.out,←HV.out]
     have:N*(10*f')=10*(N*f'):=by rw [Nat.mul_left_comm]
     omega,by
     rcases HNEXT.out with h|h
     ·exact absurd h HF.out
     ·exact h,HIT2.out,HEX2.out⟩
end Go.Proofs.YtpgdefgdboijlaaGreatDoor
namespace Go.Proofs.YtpgdefgdboijlaaGreatDoor
open Go.RowKit Go.Sort
def Tens (w:World):Prop:=Lib.TabIs Tryz.prog w "internal/strconv.uint64pow10" .u64 Lib.pow10Tab
theorem Tens.mono {w w':World} (h:Tens w) (k:Ext w w'):Tens w':=by
 unfold Tens Lib.TabIs World.var? at *
 cases hg:Tryz.prog.globalNamed "internal/strconv.uint64pow10" with
 | none=>simp [hg] at h
 | some g=>
  simp only [hg,Option.bind_some] at h ⊢
  have hlt:g<w.heap.size:=by
   rcases Nat.lt_or_ge g w.heap.size with h'|h'
   ·exact h'
   ·rw [Array.getElem?_eq_none h'] at h;simp at h
  rw [k.block g hlt];exact h
theorem holds_zero0 (w:World) (T:TypeId) (nd:Nat) (hs:nd≤24):Holds (fun (b:UInt8)=>Value.int .u8 (b.toNat:Int)) (w.alloc (.cells Lib.zeros24 T)) w.heap.size 0 (Array.replicate nd (0:UInt8)):=fun j hj=>by
 have hj':j<nd:=by simpa using hj
 refine⟨?_,World.frozen?_alloc_new _ _ _ _⟩;rw [World.cell?_alloc_new,Lib.zeros24_at _ (by omega),getElem!_pos _ j hj]
 simp
theorem fmt_in (u:Nat) (hu64:u<18446744073709551616) (w:World) (htab:Tens w):Calls Tryz.prog 189 #[.int .u64 u,.int .i64 10] w fun e w'=>e=.returned (.string ⟨(Lib.decDigits u).toArray⟩)∧Ext w w':=by
 rcases Nat.lt_or_ge u 100 with h|h
 ·have hsm:=Tryz.internal_strconv_small u h w
  have H:=ZZ hsm;have t1:decide ((u:Int)<100)=true:=by rw [decide_eq_true_eq];omega
  clear hsm htab
  go_enter Tryz.func189,Tryz.ntmps189
  go_wp2_with fail;refine H.out.mono ?_
  rintro e w1 ⟨rfl,rfl⟩;go_wp2_with fail;go_ret;exact⟨rfl,ad _⟩
 ·have t1:decide ((u:Int)<100)=false:=by rw [decide_eq_false_iff_not];omega
  have hu1:1≤u:=by omega
  have hnd:=Lib.numDigits_eq u hu1 hu64;have hnd20:Lib.nDigits u≤20:=by split at hnd <;> omega
  have HT:=ZZ htab;have hal:Tryz.prog.arrayLen 206=24:=by kernel_rfl
  have hsl:∀W,(Instr.sliceAt 206 (.pointer (some ⟨w.heap.size,0,none⟩)) none (some (.int .i64 (Lib.nDigits u:Int))) none).run Tryz.prog W=.ok (.slice (some ⟨w.heap.size,0,none⟩) (Lib.nDigits u) 24) W:=fun W=>by
   rw [run_sliceAt_array_h W 206 ⟨w.heap.size,0,none⟩ (by kernel_rfl) .i64 (Lib.nDigits u:Int) (by omega) (by rw [hal];omega)]
   go_simp
  have hH0:=holds_zero0 w 206 (Lib.nDigits u) (by omega);have hfmt:=Tryz.internal_strconv_formatBase10 w.heap.size 0 24 u (Array.replicate (Lib.nDigits u) 0) (w.alloc (.cells Lib.zeros24 206)) hH0 (by rw [Array.size_replicate];exact Lib.lt_pow_nDigits u) hu64 (by rw [Array.size_replicate];omega);rw [Array.size_replicate] at hfmt;have hnum:=Tryz.internal_strconv_numDigits u hu1 hu64 (w.alloc (.cells Lib.zeros24 206)) (htab.mono (ab _ _));have HH0:=ZZ hH0;have HF:=ZZ hfmt;have HNM:=ZZ hnum;clear hH0 hfmt hnum hal hnd htab
  go_enter Tryz.func189,Tryz.ntmps189
  go_wp2_with fail;refine HNM.out.mono ?_
  rintro e w1 ⟨rfl,rfl⟩;go_wp2_with fail;refine HF.out.mono ?_;rintro e w2 ⟨rfl,k,v',dk,rfl,hF⟩
  have hcv:(convert 171 9 (.slice (some ⟨w.heap.size,0,none⟩) (Lib.nDigits u) 24)).run Tryz.prog ((putRow (fun (b:UInt8)=>Value.int .u8 (b.toNat:Int)) (w.alloc (.cells Lib.zeros24 206)) w.heap.size 0 dk).drewN k)=.ok (.string ⟨(Lib.decDigits u).toArray⟩) ((putRow (fun (b:UInt8)=>Value.int .u8 (b.toNat:Int)) (w.alloc (.cells Lib.zeros24 206)) w.heap.size 0 dk).drewN k):=by
   have h:=run_convert_bytes_back (P:=Tryz.prog) ((putRow (fun (b:UInt8)=>Value.int .u8 (b.toNat:Int)) (w.alloc (.cells Lib.zeros24 206)) w.heap.size 0 dk).drewN k) 171 9 5 ⟨w.heap.size,0,none⟩ 24 (Lib.decDigits u) (by kernel_rfl) (by kernel_rfl) (by kernel_rfl) (fun j hj=>by
    rw [Lib.row_is_numeral hF j hj,Lib.add_plain,World.cell?_drewN];exact cell?_putRow (fun (b:UInt8)=>Value.int .u8 (b.toNat:Int)) _ w.heap.size 0 _ dk HH0.out (by rw [hF.size,Array.size_replicate]) j (by rw [hF.size];rw [Lib.decDigits_length] at hj;exact hj))
   rw [Lib.decDigits_length] at h;exact h
  have hext:Ext w ((putRow (fun (b:UInt8)=>Value.int .u8 (b.toNat:Int)) (w.alloc (.cells Lib.zeros24 206)) w.heap.size 0 dk).drewN k):=by
   rw [alloc_eq_grow];obtain⟨os',-,e⟩:=putRow_grow_new (fun (b:UInt8)=>Value.int .u8 (b.toNat:Int)) w #[Obj.cells Lib.zeros24 206] w.heap.size 0 dk (Nat.le_refl _);rw [e];exact Lib.below_grow _ w (Nat.le_refl _) k os'
  have HE:=ZZ hext;clear hext hF;go_wp2_with fail;go_ret;exact⟨rfl,HE.out⟩
theorem fmt_c (u:Nat) (hu64:u<18446744073709551616) (w:World) (htab:Tens w):Calls Tryz.prog 156 #[.int .u64 u,.int .i64 10] w fun e w'=>e=.returned (.string ⟨(Lib.decDigits u).toArray⟩)∧Ext w w':=by
 have H:=ZZ (fmt_in u hu64 w htab);clear htab
 go_enter Tryz.func156,Tryz.ntmps156
 go_wp2_with fail;refine H.out.mono ?_
 rintro e w1 ⟨rfl,h⟩;have HX:=ZZ h;clear h;go_wp2_with fail;go_ret;exact⟨rfl,HX.out⟩
end Go.Proofs.YtpgdefgdboijlaaGreatDoor
namespace Go.Proofs.YtpgdefgdboijlaaGreatDoor
open Go.RowKit Go.Sort
theorem by1_f (va:Value) (n b:Nat) (w:World) (ha:Wd w va n) (sa:Sm n) (h0:0<b) (hb:b<B64):Calls Tryz.prog 155 #[va,.int .u64 b] w fun e w'=>(∃(k c:Nat) (r:Nat),e=.returned (.tuple #[.slice (some ⟨w.heap.size,0,none⟩) k c,.int .u64 ((r:Nat):Int)])∧r=n % b∧Wd w' (.slice (some ⟨w.heap.size,0,none⟩) k c) (n / b))∧Ext w w'∧w.heap.size<w'.heap.size:=by
 obtain⟨A,ca,rfl,hca,hA⟩:=ha;have la:=dg_lt n;have en:=num_dg n;unfold Sm at sa;generalize dg n=xs at *;obtain⟨p,hp⟩:∃p,xs.length=p:=⟨_,rfl⟩;rw [hp] at hca sa ⊢;have Hp:=ZZ hp;have La:=ZZ la;have En:=ZZ en;have Hb:=ZZ hb;have hmk:=mk_words p (p:Int) rfl (by omega);clear hp la en hb
 go_enter Tryz.func155,Tryz.ntmps155
 go_wp2
 go_loopw [7,8] (fun c i wr=>∃(k rest:Nat) (r:List Nat),k≤p∧i=.int .i64 ((k:Int) - 1)∧c=.int .u64 rest∧rest<b∧r.length=p∧(∀d ∈ r,d<B64)∧BkU wr w.heap.size r∧Below w.heap.size w wr∧num B64 (r.drop k)*b+rest=num B64 (xs.drop k)) (fun _ i _=>(intOf i+1).toNat)
 case atStart=>exact⟨p,0,zs p,Nat.le_refl _,rfl,rfl,h0,zs_length _,zs_lt (by rw [B64_eq];omega) _,BkU.new _ _,ab _ _,by
  rw [List.drop_of_length_le (by rw [zs_length];omega),List.drop_of_length_le (by rw [Hp.out];omega)];simp⟩
 case round=>
  obtain⟨k,rest,r,hk,rfl,rfl,hrest,hr,hrl,hbk,hbel,hnum⟩:=hrel;have Hr:=ZZ hr;have Hrl:=ZZ hrl;have Hbk:Hid (BkU wr w.heap.size r):=hbk;have Hnum:=ZZ hnum;clear hr hrl hbk hnum
  by_cases hz:k=0
  ·subst hz
   have HC:=ZZ Hbk.out.cl;go_wp2_with fail;refine(cut_c _ r _ _ HC.out p Hr.out (by omega) (by omega)).mono ?_;rintro e w2 ⟨rfl,rfl⟩;go_wp2_with fail
   go_ret2
   have h1:=Hnum.out
   simp only [List.drop_zero] at h1
   rw [En.out] at h1
   have h2:n / b=num B64 r∧n % b=rest:=by
    rw [←h1,Nat.mul_comm]
    constructor
    ·rw [Nat.mul_add_div h0,Nat.div_eq_of_lt hrest,Nat.add_zero]
    ·rw [Nat.mul_add_mod,Nat.mod_eq_of_lt hrest]
   refine⟨⟨_,_,rest,rfl,h2.2.symm,?_⟩,hbel,Hbk.out.lt⟩;rw [h2.1];exact cut_w Hrl.out HC.out (by rw [Hr.out];omega)
  ·obtain⟨k,rfl⟩:∃j,k=j+1:=⟨k - 1,by omega⟩
   obtain⟨ba,oa,rfl,hca'⟩:=hA.u (by rw [Hp.out];omega);have ea:=aq hbel (hca' k (by rw [Hp.out];omega));have hxl:=getD_lt La.out (by rw [B64_eq];omega) k;have Hdx:Hid (xs.drop k=xs.getD k 0 :: xs.drop (k+1)):=drop_getD xs k (by rw [Hp.out];omega);clear hca' hA hz;generalize xs.getD k 0=x at *;have Hxl:=ZZ hxl;clear hxl;go_wp2_with fail;refine(div64_c rest x b hrest Hxl.out Hb.out _).mono ?_;rintro e w1 ⟨⟨q,s,rfl,hqs,hs,hq⟩,hext⟩;have hbel1:=hbel.trans (hext.mono hbel.size);have Hbk1:Hid (BkU w1 w.heap.size r):=Hbk.out.ext hext;have hci:=Hbk1.out.cell k (by rw [Hr.out];omega);have hfi:=Hbk1.out.frozen k;have Hset:=ZZ (Hbk1.out.set_ k q);have Hqs:=ZZ hqs;have Hq:=ZZ hq;clear hqs hq ea;go_wp2_with fail
   go_roundw
   case rel=>
    refine⟨k,s,r.set k q,by omega,by simp,rfl,hs,by rw [List.length_set,Hr.out],set_lt Hrl.out Hq.out k,Hset.out,hbel1.setCell (Nat.le_refl _) _,?_⟩;rw [drop_set_self r k q (by rw [Hr.out];omega),Hdx.out,num_cons,num_cons];exact by1_step (c:=0) Hnum.out Hqs.out
   case measure=>simp [intOf]
theorem dg_len_zero' {n:Nat}:(dg n).length=0↔n=0:=dg_len_zero
theorem Wd.grown {w w':World} {A:Option Addr} {k c n:Nat} {row:Option Nat} (h:Wd w (.slice A k c) n) (g:w.grownBy w' row) (hne:∀b o,A=some ⟨b,o,none⟩→some b≠row):Wd w' (.slice A k c) n:=by
 obtain⟨A',c',e,hc,hcl⟩:=h
 cases e
 refine⟨A,c,rfl,hc,?_⟩
 rcases hcl with h0|⟨b,o,hA,hce⟩
 ·exact .inl h0
 ·right
  refine⟨b,o,hA,fun j hj=>?_⟩;exact g.cell (hce j hj) (hne b o hA)
theorem info_str:(Tryz.prog.info? 9).map (fun i=>(i.zero,i.size,i.bytes))=some (some (.string ⟨#[]⟩),1,16):=by kernel_rfl
def PartsR (m k:Nat) (S:List (List UInt8)):Prop:=(k=0→S≠[]∧Lib.decDigits m=S.reverse.flatten)∧(0<k→Lib.decDigits m=Lib.decDigits k ++ S.reverse.flatten)∧k*10 ^ (18*S.length)≤m∧(k=0→S.length≤m)
theorem own_ext {w w':World} {B e size n:Nat} {v:Value} {xs:List Value} (h:w.ownsRow B e size v n xs) (k:Ext w w'):w'.ownsRow B e size v n xs:=by
 obtain⟨h1,h2⟩:=h;refine⟨h1,?_⟩
 rcases h2 with h2|⟨g,cap,cur,a,b,c,d⟩
 ·exact .inl h2
 ·exact .inr ⟨g,cap,cur,a,b,(k.block g (lt_of_block c)).trans c,d⟩
theorem own_lt {w:World} {B e size n:Nat} {v:Value} {xs:List Value} (h:w.ownsRow B e size v n xs) {b:Nat} (hb:v.ownBlock=some b):B≤b∧b<w.heap.size:=by
 obtain⟨h1,h2⟩:=h
 rcases h2 with ⟨rfl,-⟩|⟨g,cap,cur,rfl,h3,h4,-⟩
 ·simp [Value.ownBlock] at hb
 ·simp [Value.ownBlock] at hb
  subst hb;exact⟨h3,lt_of_block h4⟩
theorem app_ok {w wr w2 w3:World} {B n:Nat} {p v':Value} {xs:List Value} {o:Obj} {k2 c2 q:Nat} (hB:w.heap.size=B) (hex:Ext w wr) (hx:Ext wr w2) (hx1:wr.heap.size<w2.heap.size) (hown:wr.ownsRow B 9 1 p n xs) (hg:(w2.alloc o).grownBy w3 p.ownBlock) (hloc:v'.ownBlock=p.ownBlock∨v'.ownBlock=some (w2.alloc o).heap.size) (hq:Wd w2 (.slice (some ⟨wr.heap.size,0,none⟩) k2 c2) q):Wd w3 (.slice (some ⟨wr.heap.size,0,none⟩) k2 c2) q∧(∀b o',(some (⟨wr.heap.size,0,none⟩:Addr))=some ⟨b,o',none⟩→b<w3.heap.size∧some b≠v'.ownBlock)∧Ext w w3:=by
 have hsz:(w2.alloc o).heap.size=w2.heap.size+1:=by simp
 have hne:some wr.heap.size≠p.ownBlock:=fun e=>by have:=(own_lt hown e.symm).2;omega
 refine⟨(hq.mono (ab _ _)).grown hg (fun b o e=>by cases e;exact hne),fun b o' e=>?_,?_⟩
 ·cases e
  refine⟨by have:=hg.size;omega,?_⟩
  rcases hloc with h|h
  ·rw [h];exact hne
  ·rw [h];intro e;have:=Option.some.inj e;omega
 ·refine(al hex (al hx (ab w2 o))).grown hg ?_ (fun k hk=>?_)
  ·have:=hex.size;have:=hx.size;omega
  ·rw [hB];exact(own_lt hown hk).1
theorem str_append (a b:List UInt8):(⟨a.toArray⟩:ByteArray) ++ ⟨b.toArray⟩=⟨(a ++ b).toArray⟩:=by
 apply ByteArray.ext
 simp
theorem intercalate_nil (l:List (List UInt8)):[].intercalate l=l.flatten:=by
 induction l with
 | nil=>rfl
 | cons a l ih=>
  cases l with
  | nil=>simp [List.intercalate]
  | cons b t=>simp [List.intercalate,List.intersperse] at ih ⊢;exact ih
theorem repL (c:Nat):Lib.repeatL [48] c=List.replicate c 48:=by
 induction c with
 | zero=>rfl
 | succ c ih=>rw [Lib.repeatL,ih];rfl
theorem PartsR.start {m:Nat} (hm:0<m):PartsR m m []:=⟨fun h=>by omega,fun _=>by simp,by simp,fun h=>by omega⟩
theorem PartsR.zero {m k:Nat} {S:List (List UInt8)} (h:PartsR m k S) (hk:0<k) (hq:k / 10 ^ 18=0):PartsR m 0 (S ++ [Lib.decDigits (k % 10 ^ 18)]):=by
 have e:k % 10 ^ 18=k:=by have:=Nat.div_add_mod k (10 ^ 18);rw [hq] at this;omega
 have h1:=h.2.2.1
 have h2:S.length+1≤m:=by
  have a:S.length<2 ^ S.length:=Nat.lt_two_pow_self;have b:2 ^ S.length≤10 ^ (18*S.length):=Nat.le_trans (Nat.pow_le_pow_left (by decide) _) (Nat.pow_le_pow_right (by decide) (by omega));have c:1*10 ^ (18*S.length)≤k*10 ^ (18*S.length):=Nat.mul_le_mul_right _ hk;omega
 refine⟨fun _=>⟨by simp,?_⟩,fun h=>by omega,by simp,fun _=>by simpa using h2⟩;rw [e,List.reverse_append,List.reverse_singleton,List.singleton_append,List.flatten_cons];exact h.2.1 hk
theorem PartsR.step {m k:Nat} {S:List (List UInt8)} (h:PartsR m k S) (hk:0<k) (hq:0<k / 10 ^ 18):PartsR m (k / 10 ^ 18) (S ++ [padTo 18 (k % 10 ^ 18)]):=by
 refine⟨fun h=>by omega,fun _=>?_,?_,fun h=>by omega⟩
 ·rw [h.2.1 hk,List.reverse_append,List.reverse_singleton,List.singleton_append,List.flatten_cons,←List.append_assoc,←dec_split 18 _ _ (by decide) hq (Nat.mod_lt _ (Nat.pow_pos (by decide)))]
  congr 2
  have:=Nat.div_add_mod k (10 ^ 18)
  rw [Nat.mul_comm] at this;exact this.symm
 ·have e:k / 10 ^ 18*10 ^ (18*(S ++ [padTo 18 (k % 10 ^ 18)]).length)=(k / 10 ^ 18*10 ^ 18)*10 ^ (18*S.length):=by
   rw [List.length_append,List.length_singleton,Nat.mul_add,Nat.mul_one,Nat.pow_add,Nat.mul_assoc,Nat.mul_comm (10 ^ (18*S.length))]
  rw [e];exact Nat.le_trans (Nat.mul_le_mul_right _ (Nat.div_mul_le_self _ _)) h.2.2.1
theorem PartsR.lt {m k M:Nat} {S:List (List UInt8)} (h:PartsR m k S) (hk:0<k) (hm:m<2 ^ M):S.length<M:=by
 have b:2 ^ S.length≤10 ^ (18*S.length):=Nat.le_trans (Nat.pow_le_pow_left (by decide) _) (Nat.pow_le_pow_right (by decide) (by omega));have c:1*10 ^ (18*S.length)≤k*10 ^ (18*S.length):=Nat.mul_le_mul_right _ hk;have d:2 ^ S.length<2 ^ M:=by have:=h.2.2.1;omega
 exact(Nat.pow_lt_pow_iff_right (by decide)).1 d
theorem len18 (r:Nat) (h:r<10 ^ 18):(Lib.decDigits r).length≤18:=dec_length_le 18 r (by decide) h
theorem row_c (M:Nat) (hM:M≤1099511627776) (va:Value) (m:Nat) (w:World) (ha:Wd w va m) (hm:m<2 ^ M) (htab:Tens w):Calls Tryz.prog 120 #[va] w fun e w'=>e=.returned (.string ⟨(Lib.decDigits m).toArray⟩)∧Ext w w':=by
 have ha0:=ha;obtain⟨A,k,c,rfl⟩:=ha.form';have hlen:=ha.len;have Sm0:=ZZ (sm_of_lt hm (by omega));have HM:=ZZ hM;have Hm:=ZZ hm;have HT:=ZZ htab;have HA:=ZZ ha
 rcases Nat.eq_zero_or_pos m with h0|h0
 ·subst h0
  rw [dg_zero] at hlen;obtain rfl:k=0:=hlen.symm;clear ha ha0 hlen hm hM htab
  go_enter Tryz.func120,Tryz.ntmps120
  go_wp2_with fail;go_ret
  exact⟨by rw [dec_zero];rfl,ad _⟩
 ·have hk0:¬ k=0:=fun e=>by rw [e,dg_len_zero'] at hlen;omega
  have t1:((k:Int) == 0)=false:=by rw [beq_eq_false_iff_ne];omega
  have hsep:∀b o,A=some ⟨b,o,none⟩→b<w.heap.size:=by
   intro b o e;obtain⟨A',c',e',hc,hcl⟩:=ha0
   cases e'
   obtain⟨b',o',hA,hce⟩:=hcl.at_ (by simp;omega);rw [e] at hA
   cases hA
   exact block_lt_of_cell (hce 0 (by simp;omega))
  have HS:=ZZ hsep;have H0:=ZZ h0;clear ha ha0 hlen hm hM htab hk0 hsep;obtain⟨i0,hi,hz0,hz1,hz2⟩:=info_parts info_str
  go_enter Tryz.func120,Tryz.ntmps120
  go_wp2_with fail
  go_loopg [0,3] m (fun k a p wr=>∃(S:List (List UInt8)) (A:Option Addr) (n c:Nat),a=.slice A n c∧Wd wr (.slice A n c) k∧k≤m∧wr.ownsRow w.heap.size 9 1 p S.length (S.map encStr)∧PartsR m k S∧S.length≤M∧(∀b o,A=some ⟨b,o,none⟩→b<wr.heap.size∧some b≠p.ownBlock)∧Ext w wr)
  case atStart=>exact⟨[],A,k,c,rfl,HA.out,Nat.le_refl _,World.ownsRow_nil _ _ _ _,PartsR.start H0.out,Nat.zero_le _,fun b o e=>⟨HS.out b o e,by simp [Value.ownBlock]⟩,ad _⟩
  case round=>
   obtain⟨S,A1,n1,cc1,rfl,hN,hkm,hown,hP,hSM,hsep,hext⟩:=hrel;have HN:=ZZ hN;have HOWN:=ZZ hown;have HP:=ZZ hP;have HSM:=ZZ hSM;have HSEP:=ZZ hsep;have HEX:=ZZ hext;have HKM:=ZZ hkm;have hlen:=hN.len;clear hN hP hSM hsep hext hkm
   rcases Nat.eq_zero_or_pos gk with hz|hz
   ·subst hz
    rw [dg_zero] at hlen;obtain rfl:n1=0:=hlen.symm;obtain⟨hSne,hfin⟩:=HP.out.1 rfl;obtain⟨hl,h2⟩:=hown
    rcases h2 with ⟨-,hn0⟩|⟨g,cap,cur,rfl,hg,hblk,hnc,hcm,hsz,htk⟩
    ·exact absurd (List.length_eq_zero_iff.1 hn0) hSne
    ·have hHolds:Holds encStr wr g 0 S.toArray:=by
      intro j hj;have hj':j<S.length:=by simpa using hj
      refine⟨?_,frozen_of_row _ _ _ _ _ hblk⟩;rw [cell_of_row _ _ _ _ _ _ hblk];have h3:(cur.toList.take (S.length*1))[j]?=some (encStr S[j]):=by rw [htk];simp [hj']
      rw [List.getElem?_take_of_lt (by omega)] at h3
      simp only [Nat.zero_add]
      rw [←Array.getElem?_toList,h3]
      simp [hj']
     have hrev:=Tryz.slices_Reverse_string g 0 cap S wr hHolds (by unfold maxLen at hcm;omega);have HREV:=ZZ hrev;have HH:=ZZ hHolds;have HFIN:=ZZ hfin;have HG:=ZZ hg;have HNC:=ZZ hnc;have HB:=ZZ (lt_of_block hblk);have HCM:=ZZ hcm;clear hlen hSne hfin hl hg hblk hnc hcm hsz htk hHolds hrev;go_wp2_with fail;refine HREV.out.mono ?_;rintro e w1 ⟨rfl,q,rfl⟩;have hb1:Ext w (putRow encStr (Sort.ahead wr q) g 0 S.reverse.toArray):=Lib.below_putRow HEX.out HG.out;have HB1:=ZZ hb1
     have hcells:∀(j:Nat) x,((S.reverse.map fun l=>(⟨l.toArray⟩:ByteArray))[j]?)=some x→(putRow encStr (Sort.ahead wr q) g 0 S.reverse.toArray).cell? ⟨g,0+j,none⟩=some (.string x):=by
      intro j x hx
      have hj:j<S.reverse.length:=by
       rcases Nat.lt_or_ge j S.reverse.length with h|h
       ·exact h
       ·rw [List.getElem?_eq_none (by simpa using h)] at hx;cases hx
      have hH2:Holds encStr (Sort.ahead wr q) g 0 S.toArray:=HH.out;rw [cell?_putRow encStr (Sort.ahead wr q) g 0 S.toArray S.reverse.toArray hH2 (by simp) j (by simpa using hj)];rw [List.getElem?_map,List.getElem?_eq_getElem hj] at hx
      simp only [Option.map_some,Option.some.injEq] at hx
      rw [←hx,getElem!_pos _ _ (by simpa using hj)]
      simp [encStr]
     have hgl:g<(putRow encStr (Sort.ahead wr q) g 0 S.reverse.toArray).heap.size:=by
      have h5:=HB.out
      simpa [putRow,mapBlock,Sort.ahead] using h5
     have hjn:(Lib.join ((S.reverse.map fun l=>(⟨l.toArray⟩:ByteArray)).map (·.data.toList)) (ByteArray.mk #[]).data.toList)=S.reverse.flatten:=by
      have e1:(S.reverse.map fun l=>(⟨l.toArray⟩:ByteArray)).map (·.data.toList)=S.reverse:=by
       rw [List.map_map];exact(List.map_congr_left (fun a _=>by simp)).trans (List.map_id _)
      rw [e1]
      show [].intercalate S.reverse=_
      exact intercalate_nil _
     have hdl:(Lib.decDigits m).length≤M+1:=dec_length_le (M+1) m (by omega) (by
      have h6:=Hm.out;have h7:2 ^ M≤10 ^ M:=Nat.pow_le_pow_left (by decide) _;have h8:10 ^ M≤10 ^ (M+1):=Nat.pow_le_pow_right (by decide) (by omega)
      omega)
     have hM:=HM.out;have hSM:=HSM.out;have hJ:=Tryz.strings_Join g 0 cap (S.reverse.map fun l=>(⟨l.toArray⟩:ByteArray)) ⟨#[]⟩ _ hcells hgl (by simp;omega) (by simpa using HNC.out) (by rw [hjn,←HFIN.out];omega);rw [hjn,←HFIN.out] at hJ;have hlr:(S.reverse.map fun l=>(⟨l.toArray⟩:ByteArray)).length=S.length:=by simp
     rw [hlr] at hJ;have HJ:=ZZ hJ;clear hcells hgl hjn hdl hM hSM hJ hb1 hlr;go_wp2_with fail;refine HJ.out.mono ?_;rintro e w2 ⟨rfl,h9⟩;have H9:=ZZ h9;clear h9;go_wp2_with fail;go_ret;exact⟨rfl,al HB1.out H9.out⟩
   ·have hn1:0<n1:=by
     rcases Nat.eq_zero_or_pos n1 with h|h
     ·rw [h] at hlen;have:=dg_len_zero.1 hlen;omega
     ·exact h
    have t4:(0:Int)<(n1:Int):=by omega
    have HZ0:=ZZ hz;have Sk:=ZZ (sm_lt HKM.out Sm0.out);clear hz hlen hn1 hown;go_wp2_with fail;refine(by1_f _ gk 1000000000000000000 wr HN.out Sk.out (by decide) (by decide)).mono ?_;rintro e w1 ⟨⟨k2,c2,r,rfl,hr,hq⟩,hx1,hf1⟩;have HR:=ZZ hr;have HQ:=ZZ hq;have HX1:=ZZ hx1;have HF1:=ZZ hf1;clear hf1;have hrl:r<1000000000000000000:=by rw [hr];exact Nat.mod_lt _ (by decide)
    have HRL:=ZZ hrl;clear hr hq hx1 hrl;go_wp2_with fail;refine(fmt_c r (by have:=HRL.out;omega) w1 (HT.out.mono (al HEX.out HX1.out))).mono ?_;rintro e w2 ⟨rfl,hx2⟩;have HX2:=ZZ hx2;clear hx2
    rcases Nat.eq_zero_or_pos (gk / 1000000000000000000) with hq0|hq0
    ·have hk2:=HQ.out.len
     rw [hq0,dg_zero] at hk2;obtain rfl:k2=0:=hk2.symm;have HQ0:=ZZ hq0;clear hq0 hk2
     have hfresh:wr.heap.size<w2.heap.size:=by
      have h1:=HF1.out;have h2:=HX2.out.size;omega
     have hxx:=al HX1.out HX2.out;have hx1s:=HX1.out.size;have hx2s:=HX2.out.size;have hown2:=own_ext HOWN.out hxx;have HO2:=ZZ hown2;have HXX:=ZZ hxx;have hsm:=HSM.out;have hMM:=HM.out;have hws:=ZZ (show w.heap.size≤w2.heap.size+1 by have:=HEX.out.size;omega);have hpl:=HP.out.lt HZ0.out Hm.out;have h63:S.length+1≤maxLen:=by unfold maxLen;omega
     have hby:(S.length+1)*16≤140737488355328:=by omega
     have hlt12:=ZZ hfresh;have HPL:=ZZ hpl;have H63:=ZZ h63
     have HBY:=ZZ hby
     clear hxx hown2 hsm hMM hpl h63 hby hx1s hx2s hfresh
     go_wp2_with (at_builtin;refine wpList_append_own_at _ rfl _ _ 77 rfl w.heap.size 9 i0 (.string ⟨#[]⟩) 1 16 Tryz.underlying77 hi hz0 hz1 hz2 rfl (by decide) _ _ _ rfl (HO2.out.alloc _) ⟨w2.heap.size,0,none⟩ 1 1 [encStr (Lib.decDigits r)] rfl rfl (cell_one_new _ _ _) (by intro u hu;simp at hu;subst hu;rfl) H63.out HBY.out (by simpa using hws.out) ?_;intro v' w3 hown3 hgrow hnil hloc)
     obtain⟨hA3,hS3,hE3⟩:=app_ok rfl HEX.out HXX.out hlt12.out HOWN.out hgrow hloc (HQ.out.mono HX2.out);have HA3:=ZZ hA3;have HS3:=ZZ hS3;have HE3:=ZZ hE3;have HO3:=ZZ hown3;clear hA3 hS3 hE3 hown3 hgrow hnil hloc;go_wp2_with fail
     go_roundg (gk / 1000000000000000000)
     case measure=>exact Nat.div_lt_self HZ0.out (by decide)
     case rel=>exact⟨S ++ [(Lib.decDigits r)],_,_,_,rfl,HA3.out,Nat.le_trans (Nat.div_le_self _ _) HKM.out,by rw [List.map_append,List.length_append];exact HO3.out,by rw [HQ0.out,HR.out];exact HP.out.zero HZ0.out HQ0.out,by rw [List.length_append];have:=HPL.out;simp;omega,HS3.out,HE3.out⟩
    ·have hk2:=HQ.out.len
     have hk3:0<k2:=by
      rcases Nat.eq_zero_or_pos k2 with h|h
      ·rw [h] at hk2;have:=dg_len_zero.1 hk2;omega
      ·exact h
     have t5:(0:Int)<(k2:Int):=by omega
     have HQ0:=ZZ hq0;clear hq0 hk2 hk3;have h18:=len18 r HRL.out;have HL18:=ZZ h18;obtain⟨cc,hcc⟩:∃cc:Nat,cc=18 - (Lib.decDigits r).length:=⟨_,rfl⟩;have u7:IntKind.i64.wrap (18 - ((Lib.decDigits r).length:Int))=(cc:Int):=(IntWalk.i64_in _ (by omega)).trans (by omega);have u8:(18 - ((Lib.decDigits r).length:Int))=(cc:Int):=by omega
     have HCC:=ZZ hcc;clear hcc h18;go_wp2_with fail;refine(Tryz.strings_Repeat ⟨#[48]⟩ cc w2 (by have:=HCC.out;omega) (by have:=HCC.out;show 1*cc≤_;omega)).mono ?_;rintro e w4 ⟨rfl,hx4⟩;have HX4:=ZZ hx4;clear hx4
     have hst:(⟨(Lib.repeatL [48] cc).toArray⟩:ByteArray) ++ ⟨(Lib.decDigits r).toArray⟩=⟨(padTo 18 r).toArray⟩:=by
      rw [str_append,repL,HCC.out];rfl
     have hcat:(Lib.repeatL [48] cc).length+(Lib.decDigits r).length≤9223372036854775807:=by
      rw [repL]
      have:=HL18.out
      have:=HCC.out
      simp;omega
     have hcat2:((Lib.repeatL [48] cc).length:Int)+((Lib.decDigits r).length:Int)≤9223372036854775807:=by omega
     have hfresh:wr.heap.size<w4.heap.size:=by
      have h1:=HF1.out;have h2:=HX2.out.size;have h3:=HX4.out.size;omega
     have hxx:=al HX1.out (al HX2.out HX4.out);have hx1s:=HX1.out.size;have hx2s:=HX2.out.size;have hx4s:=HX4.out.size;have hown2:=own_ext HOWN.out hxx;have HO2:=ZZ hown2;have HXX:=ZZ hxx;have hsm:=HSM.out;have hMM:=HM.out;have hws:=ZZ (show w.heap.size≤w4.heap.size+1 by have:=HEX.out.size;omega);have hpl:=HP.out.lt HZ0.out Hm.out;have h63:S.length+1≤maxLen:=by unfold maxLen;omega
     have hby:(S.length+1)*16≤140737488355328:=by omega
     have hlt12:=ZZ hfresh;have HPL:=ZZ hpl;have H63:=ZZ h63
     have HBY:=ZZ hby
     clear hxx hown2 hsm hMM hpl h63 hby hx1s hx2s hx4s hfresh
     go_wp2_with (at_builtin;refine wpList_append_own_at _ rfl _ _ 77 rfl w.heap.size 9 i0 (.string ⟨#[]⟩) 1 16 Tryz.underlying77 hi hz0 hz1 hz2 rfl (by decide) _ _ _ rfl (HO2.out.alloc _) ⟨w4.heap.size,0,none⟩ 1 1 [encStr (padTo 18 r)] rfl rfl (cell_one_new _ _ _) (by intro u hu;simp at hu;subst hu;rfl) H63.out HBY.out (by simpa using hws.out) ?_;intro v' w3 hown3 hgrow hnil hloc)
     obtain⟨hA3,hS3,hE3⟩:=app_ok rfl HEX.out HXX.out hlt12.out HOWN.out hgrow hloc (HQ.out.mono (al HX2.out HX4.out));have HA3:=ZZ hA3;have HS3:=ZZ hS3;have HE3:=ZZ hE3;have HO3:=ZZ hown3;clear hA3 hS3 hE3 hown3 hgrow hnil hloc;go_wp2_with fail
     go_roundg (gk / 1000000000000000000)
     case measure=>exact Nat.div_lt_self HZ0.out (by decide)
     case rel=>exact⟨S ++ [(padTo 18 r)],_,_,_,rfl,HA3.out,Nat.le_trans (Nat.div_le_self _ _) HKM.out,by rw [List.map_append,List.length_append];exact HO3.out,by rw [HR.out];exact HP.out.step HZ0.out HQ0.out,by rw [List.length_append];have:=HPL.out;simp;omega,HS3.out,HE3.out⟩
end Go.Proofs.YtpgdefgdboijlaaGreatDoor
namespace Go.Proofs.YtpgdefgdboijlaaGreatDoor
open Go.RowKit
theorem indexByte_no (l:List UInt8) (c:UInt8) (h:c ∉ l):Lib.indexByte l c = -1:=by
 induction l with
 | nil=>rfl
 | cons b l ih=>
  have h1:(b == c)=false:=by rw [beq_eq_false_iff_ne];exact fun e=>h (e ▸ List.mem_cons_self ..)
  have h2:=ih (fun e=>h (List.mem_cons_of_mem _ e));unfold Lib.indexByte;rw [h1,h2];rfl
theorem indexByte_yes (a b:List UInt8) (c:UInt8) (h:c ∉ a):Lib.indexByte (a ++ c :: b) c=(a.length:Int):=by
 induction a with
 | nil=>simp [Lib.indexByte]
 | cons d a ih=>
  have h1:(d == c)=false:=by rw [beq_eq_false_iff_ne];exact fun e=>h (e ▸ List.mem_cons_self ..)
  have h2:=ih (fun e=>h (List.mem_cons_of_mem _ e));rw [List.cons_append];unfold Lib.indexByte;rw [h1,h2]
  have:((a.length:Int) == -1)=false:=by rw [beq_eq_false_iff_ne];omega
  simp [this]
theorem cut_no_in (l:List UInt8) (c:UInt8) (h:c ∉ l) (w:World):Calls Tryz.prog 147 #[.string ⟨l.toArray⟩,.string ⟨#[c]⟩] w fun e w'=>e=.returned (.tuple #[.string ⟨l.toArray⟩,.string ⟨#[]⟩,.bool false])∧Ext w w':=by
 have hi:=Tryz.stringslite_Index_one ⟨l.toArray⟩ c w;have e:Lib.indexByte (ByteArray.mk l.toArray).data.toList c = -1:=indexByte_no l c h;rw [e] at hi;have HI:=ZZ hi;clear hi e h
 go_enter Tryz.func147,Tryz.ntmps147
 go_wp2_with fail;refine HI.out.mono ?_
 rintro e w1 ⟨rfl,rfl⟩;go_wp2_with fail;refine bodyPost_ret (v:=.tuple #[.string ⟨l.toArray⟩,.string ⟨#[]⟩,.bool false]) (by simp [results,Tryz.f147]) rfl ?_;exact⟨rfl,ad _⟩
theorem cut_yes_in (a b:List UInt8) (c:UInt8) (h:c ∉ a) (hs:(a ++ c :: b).length≤9223372036854775807) (w:World):Calls Tryz.prog 147 #[.string ⟨(a ++ c :: b).toArray⟩,.string ⟨#[c]⟩] w fun e w'=>e=.returned (.tuple #[.string ⟨a.toArray⟩,.string ⟨b.toArray⟩,.bool true])∧Ext w w':=by
 have hi:=Tryz.stringslite_Index_one ⟨(a ++ c :: b).toArray⟩ c w;have e:Lib.indexByte (ByteArray.mk (a ++ c :: b).toArray).data.toList c=(a.length:Int):=indexByte_yes a b c h;rw [e] at hi;have HI:=ZZ hi;obtain⟨p,hp⟩:∃p,p=a.length:=⟨_,rfl⟩;rw [←hp] at HI;obtain⟨s,hse⟩:∃s:ByteArray,s=⟨(a ++ c :: b).toArray⟩:=⟨_,rfl⟩;have hsz:s.size=p+1+b.length:=by rw [hse,hp];show (a ++ c :: b).length=_;simp;omega
 have x1:s.extract 0 p=⟨a.toArray⟩:=by
  rw [hse,hp];apply ByteArray.ext;simp
 have x2:s.extract (p+1) s.size=⟨b.toArray⟩:=by
  rw [hsz,hse,hp];apply ByteArray.ext
  simp
 have hbd:p+1+b.length≤9223372036854775807:=by simp at hs;omega
 rw [←hse] at HI ⊢;clear hi e h hse hs hp;have u1:IntKind.i64.wrap ((p:Int)+1)=(p:Int)+1:=IntWalk.i64_in _ (by omega);have q1:(0:Int)≤(p:Int):=by omega
 have q2:(p:Int)≤(s.size:Int):=by omega
 have q3:(0:Int)≤(p:Int)+1:=by omega
 have q4:(p:Int)+1≤(s.size:Int):=by omega
 have q5:((p:Int)+1).toNat=p+1:=by omega
 have X2:=ZZ x2;have HSZ:=ZZ hsz;clear hsz hbd x2;have x2:=X2.out
 go_enter Tryz.func147,Tryz.ntmps147
 go_wp2_with fail;refine HI.out.mono ?_
 rintro e w1 ⟨rfl,rfl⟩;go_wp2_with fail
 go_quiet (fail)
 go_wp2_with fail;refine bodyPost_ret (v:=.tuple #[.string ⟨a.toArray⟩,.string ⟨b.toArray⟩,.bool true]) (by simp [results,Tryz.f147]) rfl ?_
 exact⟨rfl,aA _ _⟩
theorem cut_no_c (l:List UInt8) (c:UInt8) (h:c ∉ l) (w:World):Calls Tryz.prog 101 #[.string ⟨l.toArray⟩,.string ⟨#[c]⟩] w fun e w'=>e=.returned (.tuple #[.string ⟨l.toArray⟩,.string ⟨#[]⟩,.bool false])∧Ext w w':=by
 have H:=ZZ (cut_no_in l c h w);clear h
 go_enter Tryz.func101,Tryz.ntmps101
 go_wp2_with fail;refine H.out.mono ?_
 rintro e w1 ⟨rfl,h⟩;have HX:=ZZ h;clear h;go_wp2_with fail;refine bodyPost_ret (v:=.tuple #[.string ⟨l.toArray⟩,.string ⟨#[]⟩,.bool false]) (by simp [results,Tryz.f101]) rfl ?_;exact⟨rfl,HX.out⟩
theorem cut_yes_c (a b:List UInt8) (c:UInt8) (h:c ∉ a) (hs:(a ++ c :: b).length≤9223372036854775807) (w:World):Calls Tryz.prog 101 #[.string ⟨(a ++ c :: b).toArray⟩,.string ⟨#[c]⟩] w fun e w'=>e=.returned (.tuple #[.string ⟨a.toArray⟩,.string ⟨b.toArray⟩,.bool true])∧Ext w w':=by
 have H:=ZZ (cut_yes_in a b c h hs w);clear h hs;generalize (⟨(a ++ c :: b).toArray⟩:ByteArray)=s at *
 go_enter Tryz.func101,Tryz.ntmps101
 go_wp2_with fail;refine H.out.mono ?_
 rintro e w1 ⟨rfl,h⟩;have HX:=ZZ h;clear h;go_wp2_with fail;refine bodyPost_ret (v:=.tuple #[.string ⟨a.toArray⟩,.string ⟨b.toArray⟩,.bool true]) (by simp [results,Tryz.f101]) rfl ?_;exact⟨rfl,HX.out⟩
theorem split_at (l:List UInt8) (c:UInt8):c ∉ l∨∃a b,l=a ++ c :: b∧c ∉ a:=by
 induction l with
 | nil=>exact .inl (by simp)
 | cons d l ih=>
  by_cases h:d=c
  ·exact .inr ⟨[],l,by rw [h];rfl,by simp⟩
  ·rcases ih with ih|⟨a,b,e,h1⟩
   ·exact .inl (by simp [ih,Ne.symm h])
   ·exact .inr ⟨d :: a,b,by rw [e];rfl,by simp [h1,Ne.symm h]⟩
def cutB (c:UInt8):List UInt8→List UInt8 × List UInt8 × Bool
 | []=>([],[],false)
 | d :: l=>if d=c then ([],l,true) else (d :: (cutB c l).1,(cutB c l).2.1,(cutB c l).2.2)
theorem cutB_no (l:List UInt8) (c:UInt8) (h:c ∉ l):cutB c l=(l,[],false):=by
 induction l with
 | nil=>rfl
 | cons d l ih=>
  have h1:¬ d=c:=fun e=>h (e ▸ List.mem_cons_self ..);rw [cutB,if_neg h1,ih (fun e=>h (List.mem_cons_of_mem _ e))]
theorem cutB_yes (a b:List UInt8) (c:UInt8) (h:c ∉ a):cutB c (a ++ c :: b)=(a,b,true):=by
 induction a with
 | nil=>simp [cutB]
 | cons d l ih=>
  have h1:¬ d=c:=fun e=>h (e ▸ List.mem_cons_self ..);rw [List.cons_append,cutB,if_neg h1,ih (fun e=>h (List.mem_cons_of_mem _ e))]
theorem cut_str (l:List UInt8) (c:UInt8) (hs:l.length≤9223372036854775807) (w:World):Calls Tryz.prog 101 #[.string ⟨l.toArray⟩,.string ⟨#[c]⟩] w fun e w'=>e=.returned (.tuple #[.string ⟨(cutB c l).1.toArray⟩,.string ⟨(cutB c l).2.1.toArray⟩,.bool (cutB c l).2.2])∧Ext w w':=by
 rcases split_at l c with h|⟨a,b,rfl,h⟩
 ·rw [cutB_no l c h];exact cut_no_c l c h w
 ·rw [cutB_yes a b c h];exact cut_yes_c a b c h hs w
end Go.Proofs.YtpgdefgdboijlaaGreatDoor
