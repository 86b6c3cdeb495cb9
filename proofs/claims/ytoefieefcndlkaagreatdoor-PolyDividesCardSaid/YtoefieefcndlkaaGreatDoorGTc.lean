/- Texts: the numeral of one word. Sums of polynomials, plain: what out holds after j rounds. Numbers: powers of ten. Printed by gen_nk.py. Numbers: logarithms, integers next to a number. Printed by gen_ni.py. Numbers: rounding to significant bits. Printed by gen_nj.py. Texts: the number that decimal digits are. -/
import Derived.Test.YtoefieefcndlkaaGreatDoorGTa
import Derived.Lib.ItoaMem
import Derived.Lib.AppendIntMem
import Derived.Deep.LoopGhost
import Derived.Test.YtoefieefcndlkaaGreatDoorGRat
import Derived.Lib.OthersKept
set_option linter.unusedVariables false
set_option maxRecDepth 100000
set_option maxHeartbeats 64000000
namespace Go.Proofs.YtoefieefcndlkaaGreatDoor
open Go.RowKit Go.Sort
def Tens (w:World):Prop:=Lib.TabIs Tryz.prog w "internal/strconv.uint64pow10" .u64 Lib.pow10Tab
theorem Tens.mono {w w':World} (h:Tens w) (k:Ext w w'):Tens w':=by
 unfold Tens Lib.TabIs World.var? at *
 cases hg:Tryz.prog.globalNamed "internal/strconv.uint64pow10" with
 | none=>simp [hg] at h
 | some g=>
  simp only [hg,Option.bind_some] at h ⊢
  have hlt:g<w.heap.size:=by
   rcases Nat.lt_or_ge g w.heap.size with h'|h'
   ·exact h'
   ·rw [Array.getElem?_eq_none h'] at h;simp at h
  rw [k.block g hlt];exact h
theorem holds_zero0 (w:World) (T:TypeId) (nd:Nat) (hs:nd≤24):Holds (fun (b:UInt8)=>Value.int .u8 (b.toNat:Int)) (w.alloc (.cells Lib.zeros24 T)) w.heap.size 0 (Array.replicate nd (0:UInt8)):=fun j hj=>by
 have hj':j<nd:=by simpa using hj
 refine⟨?_,World.frozen?_alloc_new _ _ _ _⟩;rw [World.cell?_alloc_new,Lib.zeros24_at _ (by omega),getElem!_pos _ j hj]
 simp
theorem fmt_in (u:Nat) (hu64:u<18446744073709551616) (w:World) (htab:Tens w):Calls Tryz.prog 157 #[.int .u64 u,.int .i64 10] w fun e w'=>e=.returned (.string ⟨(Lib.decDigits u).toArray⟩)∧Ext w w':=by
 rcases Nat.lt_or_ge u 100 with h|h
 ·have hsm:=Tryz.internal_strconv_small u h w
  have H:=ZZ hsm;have t1:decide ((u:Int)<100)=true:=by rw [decide_eq_true_eq];omega
  clear hsm htab
  go_enter Tryz.func157,Tryz.ntmps157
  go_wp2_with fail;refine H.out.mono ?_
  rintro e w1 ⟨rfl,rfl⟩;go_wp2_with fail;go_ret;exact⟨rfl,ae _⟩
 ·have t1:decide ((u:Int)<100)=false:=by rw [decide_eq_false_iff_not];omega
  have hu1:1≤u:=by omega
  have hnd:=Lib.numDigits_eq u hu1 hu64;have hnd20:Lib.nDigits u≤20:=by split at hnd <;> omega
  have HT:=ZZ htab;have hal:Tryz.prog.arrayLen 198=24:=by kernel_rfl
  have hsl:∀W,(Instr.sliceAt 198 (.pointer (some ⟨w.heap.size,0,none⟩)) none (some (.int .i64 (Lib.nDigits u:Int))) none).run Tryz.prog W=.ok (.slice (some ⟨w.heap.size,0,none⟩) (Lib.nDigits u) 24) W:=fun W=>by
   rw [run_sliceAt_array_h W 198 ⟨w.heap.size,0,none⟩ (by kernel_rfl) .i64 (Lib.nDigits u:Int) (by omega) (by rw [hal];omega)]
   go_simp
  have hH0:=holds_zero0 w 198 (Lib.nDigits u) (by omega);have hfmt:=Tryz.internal_strconv_formatBase10 w.heap.size 0 24 u (Array.replicate (Lib.nDigits u) 0) (w.alloc (.cells Lib.zeros24 198)) hH0 (by rw [Array.size_replicate];exact Lib.lt_pow_nDigits u) hu64 (by rw [Array.size_replicate];omega);rw [Array.size_replicate] at hfmt;have hnum:=Tryz.internal_strconv_numDigits u hu1 hu64 (w.alloc (.cells Lib.zeros24 198)) (htab.mono (ab _ _));have HH0:=ZZ hH0;have HF:=ZZ hfmt;have HNM:=ZZ hnum;clear hH0 hfmt hnum hal hnd htab
  go_enter Tryz.func157,Tryz.ntmps157
  go_wp2_with fail;refine HNM.out.mono ?_
  rintro e w1 ⟨rfl,rfl⟩;go_wp2_with fail;refine HF.out.mono ?_;rintro e w2 ⟨rfl,k,v',dk,rfl,hF⟩
  have hcv:(convert 185 9 (.slice (some ⟨w.heap.size,0,none⟩) (Lib.nDigits u) 24)).run Tryz.prog ((putRow (fun (b:UInt8)=>Value.int .u8 (b.toNat:Int)) (w.alloc (.cells Lib.zeros24 198)) w.heap.size 0 dk).drewN k)=.ok (.string ⟨(Lib.decDigits u).toArray⟩) ((putRow (fun (b:UInt8)=>Value.int .u8 (b.toNat:Int)) (w.alloc (.cells Lib.zeros24 198)) w.heap.size 0 dk).drewN k):=by
   have h:=run_convert_bytes_back (P:=Tryz.prog) ((putRow (fun (b:UInt8)=>Value.int .u8 (b.toNat:Int)) (w.alloc (.cells Lib.zeros24 198)) w.heap.size 0 dk).drewN k) 185 9 5 ⟨w.heap.size,0,none⟩ 24 (Lib.decDigits u) (by kernel_rfl) (by kernel_rfl) (by kernel_rfl) (fun j hj=>by
    rw [Lib.row_is_numeral hF j hj,Lib.add_plain,World.cell?_drewN];exact cell?_putRow (fun (b:UInt8)=>Value.int .u8 (b.toNat:Int)) _ w.heap.size 0 _ dk HH0.out (by rw [hF.size,Array.size_replicate]) j (by rw [hF.size];rw [Lib.decDigits_length] at hj;exact hj))
   rw [Lib.decDigits_length] at h;exact h
  have hext:Ext w ((putRow (fun (b:UInt8)=>Value.int .u8 (b.toNat:Int)) (w.alloc (.cells Lib.zeros24 198)) w.heap.size 0 dk).drewN k):=by
   rw [alloc_eq_grow];obtain⟨os',-,e⟩:=putRow_grow_new (fun (b:UInt8)=>Value.int .u8 (b.toNat:Int)) w #[Obj.cells Lib.zeros24 198] w.heap.size 0 dk (Nat.le_refl _);rw [e];exact Lib.below_grow _ w (Nat.le_refl _) k os'
  have HE:=ZZ hext;clear hext hF;go_wp2_with fail;go_ret;exact⟨rfl,HE.out⟩
theorem fmt_c (u:Nat) (hu64:u<18446744073709551616) (w:World) (htab:Tens w):Calls Tryz.prog 117 #[.int .u64 u,.int .i64 10] w fun e w'=>e=.returned (.string ⟨(Lib.decDigits u).toArray⟩)∧Ext w w':=by
 have H:=ZZ (fmt_in u hu64 w htab);clear htab
 go_enter Tryz.func117,Tryz.ntmps117
 go_wp2_with fail;refine H.out.mono ?_
 rintro e w1 ⟨rfl,h⟩;have HX:=ZZ h;clear h;go_wp2_with fail;go_ret;exact⟨rfl,HX.out⟩
end Go.Proofs.YtoefieefcndlkaaGreatDoor
set_option linter.unusedVariables false
set_option maxRecDepth 100000
set_option maxHeartbeats 64000000
namespace Go.Proofs.YtoefieefcndlkaaGreatDoor
def stepL (p q:List Rat) (j:Nat):List Rat:=(List.range p.length).map fun i=>if i<j then co p i+co q i else co p i
theorem stepL_len (p q:List Rat) (j:Nat):(stepL p q j).length=p.length:=by simp [stepL]
theorem stepL_get (p q:List Rat) (j:Nat) {i:Nat} (hi:i<p.length):(stepL p q j)[i]?=some (if i<j then co p i+co q i else co p i):=by
 unfold stepL;rw [List.getElem?_map,List.getElem?_range hi];rfl
theorem stepL_zero (p q:List Rat):stepL p q 0=p:=by
 apply List.ext_getElem?
 intro i
 rcases Nat.lt_or_ge i p.length with hi|hi
 ·rw [stepL_get p q 0 hi,if_neg (Nat.not_lt_zero _)]
  unfold co;rw [List.getElem?_eq_getElem hi];rfl
 ·rw [List.getElem?_eq_none hi,List.getElem?_eq_none (by rw [stepL_len];exact hi)]
theorem stepL_succ (p q:List Rat) {j:Nat} (hj:j<p.length):(stepL p q j).set j (co p j+co q j)=stepL p q (j+1):=by
 apply List.ext_getElem?
 intro i
 rcases Nat.lt_or_ge i p.length with hi|hi
 ·rw [stepL_get p q (j+1) hi]
  by_cases e:j=i
  ·subst e
   rw [List.getElem?_set_self (by rw [stepL_len];exact hi),if_pos (Nat.lt_succ_self _)]
  ·rw [List.getElem?_set_ne e,stepL_get p q j hi]
   by_cases h:i<j
   ·rw [if_pos h,if_pos (Nat.lt_succ_of_lt h)]
   ·rw [if_neg h,if_neg (by omega)]
 ·rw [List.getElem?_eq_none (by rw [List.length_set,stepL_len];exact hi),List.getElem?_eq_none (by rw [stepL_len];exact hi)]
theorem co_step (p q:List Rat) (h:q.length≤p.length) (i:Nat):co (stepL p q q.length) i=co p i+co q i:=by
 rcases Nat.lt_or_ge i p.length with hi|hi
 ·show ((stepL p q q.length)[i]?).getD 0=_
  rw [stepL_get p q _ hi]
  show (if i<q.length then co p i+co q i else co p i)=_
  by_cases hq:i<q.length
  ·rw [if_pos hq]
  ·rw [if_neg hq,co_ge (p:=q) (by omega)];grind
 ·rw [co_ge (by rw [stepL_len];exact hi),co_ge hi,co_ge (p:=q) (by omega)];grind
def addF (p q:List Rat):List Rat:=trimF (zipA p q)
theorem addF_comm (p q:List Rat):addF p q=addF q p:=trim_co fun i=>by rw [co_zip,co_zip];grind
theorem addF_step (p q:List Rat) (h:q.length≤p.length):trimF (stepL p q q.length)=addF p q:=trim_co fun i=>by rw [co_step p q h,co_zip]
end Go.Proofs.YtoefieefcndlkaaGreatDoor
set_option linter.unusedVariables false
set_option maxRecDepth 100000
set_option maxHeartbeats 64000000
namespace Go.Proofs.YtoefieefcndlkaaGreatDoor
open Go.RowKit
theorem ten_lt (c:Nat):10 ^ c<2 ^ (4*c+1):=by
 have h:10 ^ c≤16 ^ c:=Nat.pow_le_pow_left (by decide) c;rw [Nat.pow_succ,Nat.pow_mul,show (2:Nat) ^ 4=16 from rfl]
 have:=Nat.pow_pos (n:=c) (show 0<16 by decide)
 omega
end Go.Proofs.YtoefieefcndlkaaGreatDoor
set_option linter.unusedVariables false
set_option maxRecDepth 100000
set_option maxHeartbeats 64000000
namespace Go.Proofs.YtoefieefcndlkaaGreatDoor
open Go.RowKit
theorem bl_le {n M:Nat} (h:n<2 ^ M):bl n≤M:=by
 unfold bl
 split
 ·omega
 ·rename_i h0
  have:=(Nat.log2_lt h0).2 h
  omega
def logN (n d:Nat):Int:=
 if bl d≤bl n then (if n<d*2 ^ (bl n - bl d) then ((bl n - bl d:Nat):Int) - 1 else ((bl n - bl d:Nat):Int))
 else (if n*2 ^ (bl d - bl n)<d then -((bl d - bl n:Nat):Int) - 1 else -((bl d - bl n:Nat):Int))
def logQ (x:Rat):Int:=logN x.num.natAbs x.den
theorem logQ_bound {M:Nat} {x:Rat} (h:Bq M x):-(M:Int) - 1≤logQ x∧logQ x≤M:=by
 have h1:=bl_le h.1;have h2:=bl_le h.2;unfold logQ logN
 split <;> split <;> omega
def wholeN (n d:Nat) (away:Bool):Nat:=if away=true∧n % d≠0 then n / d+1 else n / d
def wholeQ (x:Rat) (away:Bool):Rat:=rat (decide (x.num<0)) (wholeN x.num.natAbs x.den away) 1
theorem wholeN_lt {n d B:Nat} {away:Bool} (h:n<2 ^ B):wholeN n d away<2 ^ (B+1):=by
 unfold wholeN;have h1:n / d≤n:=Nat.div_le_self _ _;rw [Nat.pow_succ]
 split <;> omega
theorem Bq.wh {B:Nat} {x:Rat} {away:Bool} (h:Bq B x):Bq (B+1) (wholeQ x away):=
 bq_rat (wholeN_lt h.1) (Nat.one_lt_two_pow (by omega)) (by decide)
end Go.Proofs.YtoefieefcndlkaaGreatDoor
set_option linter.unusedVariables false
set_option maxRecDepth 100000
set_option maxHeartbeats 64000000
namespace Go.Proofs.YtoefieefcndlkaaGreatDoor
open Go.RowKit
def stepQ (x:Rat) (bits:Int):Int:=logQ x - min (max bits 1) 2000+1
def aq (x:Rat) (bits:Int) (away:Bool):Rat:=if x=0 then 0 else shQ (wholeQ (shQ x (-(stepQ x bits))) away) (stepQ x bits)
theorem stepQ_bound {M:Nat} {x:Rat} (h:Bq M x) (bits:Int):(stepQ x bits).natAbs≤M+2001:=by
 have:=logQ_bound h
 unfold stepQ;omega
theorem Bq.round {M:Nat} {x:Rat} {bits:Int} {away:Bool} (h:Bq M x) (hM:0<M):Bq (3*M+4003) (aq x bits away):=by
 unfold aq
 split
 ·exact bq_zero _ (by omega)
 ·have hs:=stepQ_bound h bits
  have h1:Bq (M+(M+2001)) (shQ x (-(stepQ x bits))):=(Bq.sh h).mono (by rw [Int.natAbs_neg];omega);have h2:=(Bq.wh h1:Bq _ (wholeQ (shQ x (-(stepQ x bits))) away));exact(Bq.sh h2).mono (by omega)
end Go.Proofs.YtoefieefcndlkaaGreatDoor
set_option linter.unusedVariables false
set_option maxRecDepth 100000
set_option maxHeartbeats 64000000
namespace Go.Proofs.YtoefieefcndlkaaGreatDoor
open Go.RowKit
theorem Wd.iterAt {W:World} {v:Value} {n g:Nat} {s:ByteArray} {pos:Nat} (h:Wd W v n) (hg:W.heap[g]?=some (.stringIter s pos)) (p:Nat):Wd (W.iterAt g s p) v n:=by
 obtain⟨A,c,e,hc,hcl⟩:=h;refine⟨A,c,e,hc,?_⟩
 rcases Nat.eq_zero_or_pos (dg n).length with h0|h0
 ·left;rw [List.length_eq_zero_iff.1 h0];rfl
 ·obtain⟨bl,o,hA,hce⟩:=hcl.at_ (by simpa using h0)
  right
  refine⟨bl,o,hA,fun j hj=>?_⟩;have hj':j<(dg n).length:=by simpa using hj
  have h1:=hce j hj
  have hne:bl≠g:=by
   intro hb;subst hb;rw [getD_map_u64 _ _ hj'] at h1
   simp [World.cell?,hg] at h1
  rw [←h1]
  apply World.cell?_of_block
  exact Lib.iterAt_other _ _ _ _ _ hne
theorem natOf_take_succ (l:List UInt8) (p:Nat) (h:p<l.length):natOf (l.take (p+1))=10*natOf (l.take p)+((l[p]'h).toNat - 48):=by
 rw [List.take_succ_eq_append_getElem h,natOf_snoc]
theorem dig_bits (l:List UInt8) (h:∀c ∈ l,isDig c=true):natOf l<2 ^ (4*l.length+1):=
 Nat.lt_trans (natOf_lt l h) (ten_lt _)
theorem word_c' (k:Nat) (z:Int) (hz:z=(k:Int)) (hk:k<B64) (w:World):Calls Tryz.prog 52 #[.int .u64 z] w fun e w'=>∃v,e=.returned v∧Wd w' v k∧Ext w w':=by
 subst hz;exact word_c k hk w
def U64ok (p f:Nat):Prop:=p<f∧∃r,r<18∧f=10 ^ r
theorem U64ok.le {p f:Nat} (h:U64ok p f):f≤100000000000000000:=by
 obtain⟨-,r,hr,rfl⟩:=h;exact(Nat.pow_le_pow_right (by decide) (show r≤17 by omega):10 ^ r≤10 ^ 17)
theorem U64ok.next {p f d:Nat} (h:U64ok p f) (hd:d<10):10*f=1000000000000000000∨U64ok (10*p+d) (10*f):=by
 obtain⟨h1,r,hr,rfl⟩:=h
 rcases(show r=17∨r+1<18 by omega) with e|e
 ·left;subst e;rfl
 ·exact .inr ⟨by omega,r+1,e,by rw [Nat.pow_succ,Nat.mul_comm]⟩
theorem taken_c (l:List UInt8) (hl:∀c ∈ l,isDig c=true) (hs:l.length≤1073741824) (w:World):Calls Tryz.prog 73 #[.string ⟨l.toArray⟩] w fun e w'=>∃v,e=.returned v∧Wd w' v (natOf l)∧Ext w w':=by
 have HL:=ZZ hl;have HSZ:=ZZ hs
 have hbd:=ZZ (show ∀p N,N≤natOf (l.take p)→Sm N from fun p N hN=>by
  have h1:=dig_bits (l.take p) (fun c hc=>hl c (List.mem_of_mem_take hc));have h2:(l.take p).length≤1073741824:=by rw [List.length_take];omega
  exact sm_lt hN (sm_of_lt h1 (by omega)))
 clear hl hs;have hz0:(ByteArray.mk l.toArray).size=l.length:=rfl;have HSI:=ZZ hz0;clear hz0
 go_enter Tryz.func73,Tryz.ntmps73
 go_wp2_with fail
 go_loopg [3,4,5] l.length (fun k o p f wr=>∃(pos N p' f':Nat),pos+k=l.length∧p=.int .u64 (p':Int)∧f=.int .u64 (f':Int)∧Wd wr o N∧N*f'+p'=natOf (l.take pos)∧U64ok p' f'∧wr.heap[w.heap.size]?=some (.stringIter ⟨l.toArray⟩ pos)∧Ext w wr)
 case atStart=>exact⟨0,0,0,1,by omega,rfl,rfl,Wd.zero _,rfl,⟨by omega,0,by omega,rfl⟩,World.iter_heap w _ 0,(Below.refl _ _).alloc (Nat.le_refl _) _⟩
 case round=>
  obtain⟨pos,N,p',f',hpos,rfl,rfl,hN,hv,hok,hit,hext⟩:=hrel;obtain⟨P1,p1,c1,rfl⟩:=hN.form';have HN:=ZZ hN;have HV:=ZZ hv;have HOK:=ZZ hok;have HIT:=ZZ hit;have HEX:=ZZ hext;have HPOS:=ZZ hpos;have hfle:=hok.le;have hplt:=hok.1;clear hN hv hok hit hext
  rcases Nat.eq_zero_or_pos gk with hz|hz
  ·subst hz
   obtain rfl:pos=l.length:=by omega
   have hnx:∀ty,(Instr.next (.pointer (some ⟨w.heap.size,0,none⟩)) true ty).run Tryz.prog wr=_:=fun ty=>Lib.run_next_end_at wr w.heap.size ⟨l.toArray⟩ l.length ty HIT.out (by rw [HSI.out];omega);have Fl:=ZZ (show f'<B64 by rw [B64_eq];omega);have Pl:=ZZ (show p'<B64 by rw [B64_eq];omega);have V:=HV.out;rw [List.take_length] at V
   have Sn:=ZZ (hbd.out l.length N (by
    rw [List.take_length,←V];have h1:N*1≤N*f':=Nat.mul_le_mul_left _ (by omega)
    omega))
   have Snf:=ZZ (hbd.out l.length (N*f') (by rw [List.take_length];omega));have VV:=ZZ V;clear V hpos hfle hplt;go_wp2_with fail;refine(word_c f' Fl.out _).mono ?_;rintro e w1 ⟨v1,rfl,h1,k1⟩;have G1:=ZZ h1;have K1:=ZZ k1;clear h1 k1 hnx;go_wp2_with fail;refine(mul_c _ _ _ _ _ (HN.out.mono K1.out) G1.out Sn.out (sm_small _ (Nat.lt_of_lt_of_le Fl.out (by rw [B64_eq];decide)))).mono ?_;rintro e w2 ⟨v2,rfl,h2,k2⟩;have G2:=ZZ h2;have K2:=ZZ k2;clear h2 k2;go_wp2_with fail;refine(word_c p' Pl.out _).mono ?_;rintro e w3 ⟨v3,rfl,h3,k3⟩;have G3:=ZZ h3;have K3:=ZZ k3;clear h3 k3;go_wp2_with fail;refine(add_c _ _ _ _ _ (G2.out.mono K3.out) G3.out Snf.out (sm_small _ (Nat.lt_of_lt_of_le Pl.out (by rw [B64_eq];decide)))).mono ?_;rintro e w4 ⟨v4,rfl,h4,k4⟩;have G4:=ZZ h4;have K4:=ZZ k4;clear h4 k4;go_wp2_with fail;go_ret;refine⟨_,rfl,?_,ak HEX.out (ak K1.out (ak K2.out (ak K3.out K4.out)))⟩;rw [←VV.out];exact G4.out
  ·have hp:pos<(ByteArray.mk l.toArray).size:=by rw [HSI.out];omega
   have hpl:pos<l.length:=by omega
   have hdg:=(isDig_iff _).1 (HL.out (l[pos]'hpl) (List.getElem_mem hpl))
   have hnx:∀ty,(Instr.next (.pointer (some ⟨w.heap.size,0,none⟩)) true ty).run Tryz.prog wr=_:=fun ty=>Lib.run_next_ascii_at wr w.heap.size ⟨l.toArray⟩ pos ty HIT.out hp (by
    show (l[pos]'hpl).toNat<128
    omega)
   have hcv:((ByteArray.mk l.toArray)[pos]'hp).toNat=(l[pos]'hpl).toNat:=rfl;rw [hcv] at hnx;have hst:=natOf_take_succ l pos hpl;obtain⟨d,hd⟩:∃d,d=(l[pos]'hpl).toNat - 48:=⟨_,rfl⟩;obtain⟨c,hc⟩:∃c,c=(l[pos]'hpl).toNat:=⟨_,rfl⟩;rw [←hd] at hst;rw [←hc] at hnx hdg;rw [←hc] at hd;have hd10:d<10:=by omega
   have HST:=ZZ hst;have HNEXT:=ZZ (HOK.out.next hd10);have hit2:=Lib.iterAt_heap wr w.heap.size ⟨l.toArray⟩ pos (pos+1) HIT.out;have hex2:=Lib.below_iterAt HEX.out (k:=w.heap.size) (Nat.le_refl _) ⟨l.toArray⟩ (pos+1);have hN2:=HN.out.iterAt HIT.out (pos+1);obtain⟨W1,hW1⟩:∃W1,W1=wr.iterAt w.heap.size ⟨l.toArray⟩ (pos+1):=⟨_,rfl⟩;rw [←hW1] at hnx hit2 hex2 hN2;have HIT2:=ZZ hit2;have HEX2:=ZZ hex2;have HN2:=ZZ hN2;have u1:IntKind.i32.wrap ((c:Int) - 48)=(d:Int):=(IntWalk.i32_in _ (by omega)).trans (by omega);have u2:IntKind.u64.wrap (d:Int)=(d:Int):=IntWalk.u64_in _ (by omega);have u3:IntKind.u64.wrap (10*(p':Int))=10*(p':Int):=IntWalk.u64_in _ (by omega);have u4:IntKind.u64.wrap (10*(p':Int)+(d:Int))=10*(p':Int)+(d:Int):=IntWalk.u64_in _ (by omega);have u5:IntKind.u64.wrap (10*(f':Int))=10*(f':Int):=IntWalk.u64_in _ (by omega);have hlt2:=ZZ (show 10*p'+d<1000000000000000000 by omega);have U1:=ZZ u1;have U2:=ZZ u2;have U3:=ZZ u3;have U4:=ZZ u4;have U5:=ZZ u5;have HZ0:=ZZ hz;clear hW1 hst hit2 hex2 hN2 hpos u1 u2 u3 u4 u5 hd hc hcv hfle hplt hdg hz hp hpl hd10;have u1:=U1.out;have u2:=U2.out;have u3:=U3.out;have u4:=U4.out;have u5:=U5.out
   rcases Decidable.em (10*f'=1000000000000000000) with hf|hf
   ·have t1:(10*(f':Int) == 1000000000000000000)=true:=by rw [beq_iff_eq];omega
    have Fl:=ZZ (show 10*f'<B64 by rw [B64_eq];omega);have Pl:=ZZ (show 10*p'+d<B64 by rw [B64_eq];have:=hlt2.out;omega)
    have hval:N*(10*f')+(10*p'+d)=natOf (l.take (pos+1)):=by
     rw [HST.out,←HV.out]
     have:N*(10*f')=10*(N*f'):=by rw [Nat.mul_left_comm]
     omega
    have Sn:=ZZ (hbd.out (pos+1) N (by
     rw [←hval];have h1:N*1≤N*(10*f'):=Nat.mul_le_mul_left _ (by omega)
     omega))
    have Snf:=ZZ (hbd.out (pos+1) (N*(10*f')) (by rw [←hval];omega));have HVAL:=ZZ hval;have HF:=ZZ hf;clear hval hf;go_wp2_with fail;refine(word_c' (10*f') _ (by push_cast;rfl) Fl.out _).mono ?_;rintro e w1 ⟨v1,rfl,h1,k1⟩;have G1:=ZZ h1;have K1:=ZZ k1;clear h1 k1 hnx;go_wp2_with fail;refine(mul_c _ _ _ _ _ (HN2.out.mono K1.out) G1.out Sn.out (sm_small _ (Nat.lt_of_lt_of_le Fl.out (by rw [B64_eq];decide)))).mono ?_;rintro e w2 ⟨v2,rfl,h2,k2⟩;have G2:=ZZ h2;have K2:=ZZ k2;clear h2 k2;go_wp2_with fail;refine(word_c' (10*p'+d) _ (by push_cast;rfl) Pl.out _).mono ?_;rintro e w3 ⟨v3,rfl,h3,k3⟩;have G3:=ZZ h3;have K3:=ZZ k3;clear h3 k3;go_wp2_with fail;refine(add_c _ _ _ _ _ (G2.out.mono K3.out) G3.out Snf.out (sm_small _ (Nat.lt_of_lt_of_le Pl.out (by rw [B64_eq];decide)))).mono ?_;rintro e w4 ⟨v4,rfl,h4,k4⟩;have G4:=ZZ h4;have K4:=ZZ (ak K1.out (ak K2.out (ak K3.out k4)));clear h4 k4;go_wp2_with fail
    go_roundg (gk - 1)
    case measure=>have:=HZ0.out;omega
    case rel=>exact⟨pos+1,_,0,1,by have:=HPOS.out;have:=HZ0.out;omega,rfl,rfl,G4.out,by rw [←HVAL.out];omega,⟨by omega,0,by omega,rfl⟩,(K4.out.block _ (lt_of_block HIT2.out)).trans HIT2.out,ak HEX2.out K4.out⟩
   ·have t1:(10*(f':Int) == 1000000000000000000)=false:=by rw [beq_eq_false_iff_ne];omega
    have HF:=ZZ hf;clear hf;go_wp2_with fail
    go_roundg (gk - 1)
    case measure=>have:=HZ0.out;omega
    case rel=>exact⟨pos+1,N,10*p'+d,10*f',by have:=HPOS.out;have:=HZ0.out;omega,by push_cast;rfl,by push_cast;rfl,HN2.out,by
     rw [HST.out,←HV.out]
     have:N*(10*f')=10*(N*f'):=by rw [Nat.mul_left_comm]
     omega,by
     rcases HNEXT.out with h|h
     ·exact absurd h HF.out
     ·exact h,HIT2.out,HEX2.out⟩
end Go.Proofs.YtoefieefcndlkaaGreatDoor
