/- Numbers: logarithms, integers next to a number. -/
import Derived.Test.YtkoaakefgacokaaGreatDoorGTa
import Derived.Deep.LoopGhost
import Derived.Test.YtkoaakefgacokaaGreatDoorGRat
import Derived.Lib.OthersKept
import Derived.Test.YtkoaakefgacokaaGreatDoorGQx
import Derived.Test.YtkoaakefgacokaaGreatDoorGQt
set_option linter.unusedVariables false
set_option linter.unusedSimpArgs false
set_option maxRecDepth 100000
set_option maxHeartbeats 64000000
namespace Go.Proofs.YtkoaakefgacokaaGreatDoor
open Go.RowKit
theorem bl_le {n M:Nat} (h:n<2 ^ M):bl n≤M:=by
 unfold bl
 split
 ·omega
 ·rename_i h0
  have:=(Nat.log2_lt h0).2 h
  omega
def logN (n d:Nat):Int:=
 if bl d≤bl n then (if n<d*2 ^ (bl n - bl d) then ((bl n - bl d:Nat):Int) - 1 else ((bl n - bl d:Nat):Int))
 else (if n*2 ^ (bl d - bl n)<d then -((bl d - bl n:Nat):Int) - 1 else -((bl d - bl n:Nat):Int))
def logQ (x:Rat):Int:=logN x.num.natAbs x.den
theorem logQ_bound {M:Nat} {x:Rat} (h:Bq M x):-(M:Int) - 1≤logQ x∧logQ x≤M:=by
 have h1:=bl_le h.1;have h2:=bl_le h.2;unfold logQ logN
 split <;> split <;> omega
def wholeN (n d:Nat) (away:Bool):Nat:=if away=true∧n % d≠0 then n / d+1 else n / d
def wholeQ (x:Rat) (away:Bool):Rat:=rat (decide (x.num<0)) (wholeN x.num.natAbs x.den away) 1
theorem wholeN_lt {n d B:Nat} {away:Bool} (h:n<2 ^ B):wholeN n d away<2 ^ (B+1):=by
 unfold wholeN;have h1:n / d≤n:=Nat.div_le_self _ _;rw [Nat.pow_succ]
 split <;> omega
theorem Bq.wh {B:Nat} {x:Rat} {away:Bool} (h:Bq B x):Bq (B+1) (wholeQ x away):=
 bq_rat (wholeN_lt h.1) (Nat.one_lt_two_pow (by omega)) (by decide)
theorem ten_lt (c:Nat):10 ^ c<2 ^ (4*c+1):=by
 have h:10 ^ c≤16 ^ c:=Nat.pow_le_pow_left (by decide) c;rw [Nat.pow_succ,Nat.pow_mul,show (2:Nat) ^ 4=16 from rfl]
 have:=Nat.pow_pos (n:=c) (show 0<16 by decide)
 omega
def stepQ (x:Rat) (bits:Int):Int:=logQ x - min (max bits 1) 2000+1
def au (x:Rat) (bits:Int) (away:Bool):Rat:=if x=0 then 0 else shQ (wholeQ (shQ x (-(stepQ x bits))) away) (stepQ x bits)
theorem stepQ_bound {M:Nat} {x:Rat} (h:Bq M x) (bits:Int):(stepQ x bits).natAbs≤M+2001:=by
 have:=logQ_bound h
 unfold stepQ;omega
theorem Bq.round {M:Nat} {x:Rat} {bits:Int} {away:Bool} (h:Bq M x) (hM:0<M):Bq (3*M+4003) (au x bits away):=by
 unfold au
 split
 ·exact bq_zero _ (by omega)
 ·have hs:=stepQ_bound h bits
  have h1:Bq (M+(M+2001)) (shQ x (-(stepQ x bits))):=(Bq.sh h).mono (by rw [Int.natAbs_neg];omega);have h2:=(Bq.wh h1:Bq _ (wholeQ (shQ x (-(stepQ x bits))) away));exact(Bq.sh h2).mono (by omega)
theorem Wd.iterAt {W:World} {v:Value} {n g:Nat} {s:ByteArray} {pos:Nat} (h:Wd W v n) (hg:W.heap[g]?=some (.stringIter s pos)) (p:Nat):Wd (W.iterAt g s p) v n:=by
 obtain⟨A,c,e,hc,hcl⟩:=h;refine⟨A,c,e,hc,?_⟩
 rcases Nat.eq_zero_or_pos (dg n).length with h0|h0
 ·left;rw [List.length_eq_zero_iff.1 h0];rfl
 ·obtain⟨bl,o,hA,hce⟩:=hcl.at_ (by simpa using h0)
  right
  refine⟨bl,o,hA,fun j hj=>?_⟩;have hj':j<(dg n).length:=by simpa using hj
  have h1:=hce j hj
  have hne:bl≠g:=by
   intro hb;subst hb;rw [getD_map_u64 _ _ hj'] at h1
   simp [World.cell?,hg] at h1
  rw [←h1]
  apply World.cell?_of_block
  exact Lib.iterAt_other _ _ _ _ _ hne
theorem natOf_take_succ (l:List UInt8) (p:Nat) (h:p<l.length):natOf (l.take (p+1))=10*natOf (l.take p)+((l[p]'h).toNat - 48):=by
 rw [List.take_succ_eq_append_getElem h,natOf_snoc]
theorem dig_bits (l:List UInt8) (h:∀c ∈ l,isDig c=true):natOf l<2 ^ (4*l.length+1):=
 Nat.lt_trans (natOf_lt l h) (ten_lt _)
theorem word_c' (k:Nat) (z:Int) (hz:z=(k:Int)) (hk:k<B64) (w:World):Calls Tryz.prog 41 #[.int .u64 z] w fun e w'=>∃v,e=.returned v∧Wd w' v k∧Ext w w':=by
 subst hz;exact word_c k hk w
def U64ok (p f:Nat):Prop:=p<f∧∃r,r<18∧f=10 ^ r
theorem U64ok.le {p f:Nat} (h:U64ok p f):f≤100000000000000000:=by
 obtain⟨-,r,hr,rfl⟩:=h;exact(Nat.pow_le_pow_right (by decide) (show r≤17 by omega):10 ^ r≤10 ^ 17)
theorem U64ok.next {p f d:Nat} (h:U64ok p f) (hd:d<10):10*f=1000000000000000000∨U64ok (10*p+d) (10*f):=by
 obtain⟨h1,r,hr,rfl⟩:=h
 rcases(show r=17∨r+1<18 by omega) with e|e
 ·left;subst e;rfl
 ·exact .inr ⟨by omega,r+1,e,by rw [Nat.pow_succ,Nat.mul_comm]⟩
theorem taken_c (l:List UInt8) (hl:∀c ∈ l,isDig c=true) (hs:l.length≤1073741824) (w:World):Calls Tryz.prog 51 #[.string ⟨l.toArray⟩] w fun e w'=>∃v,e=.returned v∧Wd w' v (natOf l)∧Ext w w':=by
 have HL:=ZZ hl;have HSZ:=ZZ hs
 have hbd:=ZZ (show ∀p N,N≤natOf (l.take p)→Sm N from fun p N hN=>by
  have h1:=dig_bits (l.take p) (fun c hc=>hl c (List.mem_of_mem_take hc));have h2:(l.take p).length≤1073741824:=by rw [List.length_take];omega
  exact sm_lt hN (sm_of_lt h1 (by omega)))
 clear hl hs;have hz0:(ByteArray.mk l.toArray).size=l.length:=rfl;have HSI:=ZZ hz0;clear hz0
 go_enter Tryz.func51,Tryz.ntmps51
 go_wp2_with fail
 go_loopg [3,4,5] l.length (fun k o p f wr=>∃(pos N p' f':Nat),pos+k=l.length∧p=.int .u64 (p':Int)∧f=.int .u64 (f':Int)∧Wd wr o N∧N*f'+p'=natOf (l.take pos)∧U64ok p' f'∧wr.heap[w.heap.size]?=some (.stringIter ⟨l.toArray⟩ pos)∧Ext w wr)
 case atStart=>exact⟨0,0,0,1,by omega,rfl,rfl,Wd.zero _,rfl,⟨by omega,0,by omega,rfl⟩,World.iter_heap w _ 0,(Below.refl _ _).alloc (Nat.le_refl _) _⟩
 case round=>
  obtain⟨pos,N,p',f',hpos,rfl,rfl,hN,hv,hok,hit,hext⟩:=hrel;obtain⟨P1,p1,c1,rfl⟩:=hN.form';have HN:=ZZ hN;have HV:=ZZ hv;have HOK:=ZZ hok;have HIT:=ZZ hit;have HEX:=ZZ hext;have HPOS:=ZZ hpos;have hfle:=hok.le;have hplt:=hok.1;clear hN hv hok hit hext
  rcases Nat.eq_zero_or_pos gk with hz|hz
  ·subst hz
   obtain rfl:pos=l.length:=by omega
   have hnx:∀ty,(Instr.next (.pointer (some ⟨w.heap.size,0,none⟩)) true ty).run Tryz.prog wr=_:=fun ty=>Lib.run_next_end_at wr w.heap.size ⟨l.toArray⟩ l.length ty HIT.out (by rw [HSI.out];omega);have Fl:=ZZ (show f'<B64 by rw [B64_eq];omega);have Pl:=ZZ (show p'<B64 by rw [B64_eq];omega);have V:=HV.out;rw [List.take_length] at V
   have Sn:=ZZ (hbd.out l.length N (by
    rw [List.take_length,←V];have h1:N*1≤N*f':=Nat.mul_le_mul_left _ (by omega)
    omega))
   have Snf:=ZZ (hbd.out l.length (N*f') (by rw [List.take_length];omega));have VV:=ZZ V;clear V hpos hfle hplt;go_wp2_with fail;refine(word_c f' Fl.out _).mono ?_;rintro e w1 ⟨v1,rfl,h1,k1⟩;have G1:=ZZ h1;have K1:=ZZ k1;clear h1 k1 hnx;go_wp2_with fail;refine(mul_c _ _ _ _ _ (HN.out.mono K1.out) G1.out Sn.out (sm_small _ (Nat.lt_of_lt_of_le Fl.out (by rw [B64_eq];decide)))).mono ?_;rintro e w2 ⟨v2,rfl,h2,k2⟩;have G2:=ZZ h2;have K2:=ZZ k2;clear h2 k2;go_wp2_with fail;refine(word_c p' Pl.out _).mono ?_;rintro e w3 ⟨v3,rfl,h3,k3⟩;have G3:=ZZ h3;have K3:=ZZ k3;clear h3 k3;go_wp2_with fail;refine(add_c _ _ _ _ _ (G2.out.mono K3.out) G3.out Snf.out (sm_small _ (Nat.lt_of_lt_of_le Pl.out (by rw [B64_eq];decide)))).mono ?_;rintro e w4 ⟨v4,rfl,h4,k4⟩;have G4:=ZZ h4;have K4:=ZZ k4;clear h4 k4;go_wp2_with fail;go_ret;refine⟨_,rfl,?_,al HEX.out (al K1.out (al K2.out (al K3.out K4.out)))⟩;rw [←VV.out];exact G4.out
  ·have hp:pos<(ByteArray.mk l.toArray).size:=by rw [HSI.out];omega
   have hpl:pos<l.length:=by omega
   have hdg:=(isDig_iff _).1 (HL.out (l[pos]'hpl) (List.getElem_mem hpl))
   have hnx:∀ty,(Instr.next (.pointer (some ⟨w.heap.size,0,none⟩)) true ty).run Tryz.prog wr=_:=fun ty=>Lib.run_next_ascii_at wr w.heap.size ⟨l.toArray⟩ pos ty HIT.out hp (by
    show (l[pos]'hpl).toNat<128
    omega)
   have hcv:((ByteArray.mk l.toArray)[pos]'hp).toNat=(l[pos]'hpl).toNat:=rfl;rw [hcv] at hnx;have hst:=natOf_take_succ l pos hpl;obtain⟨d,hd⟩:∃d,d=(l[pos]'hpl).toNat - 48:=⟨_,rfl⟩;obtain⟨c,hc⟩:∃c,c=(l[pos]'hpl).toNat:=⟨_,rfl⟩;rw [←hd] at hst;rw [←hc] at hnx hdg;rw [←hc] at hd;have hd10:d<10:=by omega
   have HST:=ZZ hst;have HNEXT:=ZZ (HOK.out.next hd10);have hit2:=Lib.iterAt_heap wr w.heap.size ⟨l.toArray⟩ pos (pos+1) HIT.out;have hex2:=Lib.below_iterAt HEX.out (k:=w.heap.size) (Nat.le_refl _) ⟨l.toArray⟩ (pos+1);have hN2:=HN.out.iterAt HIT.out (pos+1);obtain⟨W1,hW1⟩:∃W1,W1=wr.iterAt w.heap.size ⟨l.toArray⟩ (pos+1):=⟨_,rfl⟩;rw [←hW1] at hnx hit2 hex2 hN2;have HIT2:=ZZ hit2;have HEX2:=ZZ hex2;have HN2:=ZZ hN2;have u1:IntKind.i32.wrap ((c:Int) - 48)=(d:Int):=(IntWalk.i32_in _ (by omega)).trans (by omega);have u2:IntKind.u64.wrap (d:Int)=(d:Int):=IntWalk.u64_in _ (by omega);have u3:IntKind.u64.wrap (10*(p':Int))=10*(p':Int):=IntWalk.u64_in _ (by omega);have u4:IntKind.u64.wrap (10*(p':Int)+(d:Int))=10*(p':Int)+(d:Int):=IntWalk.u64_in _ (by omega);have u5:IntKind.u64.wrap (10*(f':Int))=10*(f':Int):=IntWalk.u64_in _ (by omega);have hlt2:=ZZ (show 10*p'+d<1000000000000000000 by omega);have U1:=ZZ u1;have U2:=ZZ u2;have U3:=ZZ u3;have U4:=ZZ u4;have U5:=ZZ u5;have HZ0:=ZZ hz;clear hW1 hst hit2 hex2 hN2 hpos u1 u2 u3 u4 u5 hd hc hcv hfle hplt hdg hz hp hpl hd10;have u1:=U1.out;have u2:=U2.out;have u3:=U3.out;have u4:=U4.out;have u5:=U5.out
   rcases Decidable.em (10*f'=1000000000000000000) with hf|hf
   ·have t1:(10*(f':Int) == 1000000000000000000)=true:=by rw [beq_iff_eq];omega
    have Fl:=ZZ (show 10*f'<B64 by rw [B64_eq];omega);have Pl:=ZZ (show 10*p'+d<B64 by rw [B64_eq];have:=hlt2.out;omega)
    have hval:N*(10*f')+(10*p'+d)=natOf (l.take (pos+1)):=by
     rw [HST.out,←HV.out]
     have:N*(10*f')=10*(N*f'):=by rw [Nat.mul_left_comm]
     omega
    have Sn:=ZZ (hbd.out (pos+1) N (by
     rw [←hval];have h1:N*1≤N*(10*f'):=Nat.mul_le_mul_left _ (by omega)
     omega))
    have Snf:=ZZ (hbd.out (pos+1) (N*(10*f')) (by rw [←hval];omega));have HVAL:=ZZ hval;have HF:=ZZ hf;clear hval hf;go_wp2_with fail;refine(word_c' (10*f') _ (by push_cast;rfl) Fl.out _).mono ?_;rintro e w1 ⟨v1,rfl,h1,k1⟩;have G1:=ZZ h1;have K1:=ZZ k1;clear h1 k1 hnx;go_wp2_with fail;refine(mul_c _ _ _ _ _ (HN2.out.mono K1.out) G1.out Sn.out (sm_small _ (Nat.lt_of_lt_of_le Fl.out (by rw [B64_eq];decide)))).mono ?_;rintro e w2 ⟨v2,rfl,h2,k2⟩;have G2:=ZZ h2;have K2:=ZZ k2;clear h2 k2;go_wp2_with fail;refine(word_c' (10*p'+d) _ (by push_cast;rfl) Pl.out _).mono ?_;rintro e w3 ⟨v3,rfl,h3,k3⟩;have G3:=ZZ h3;have K3:=ZZ k3;clear h3 k3;go_wp2_with fail;refine(add_c _ _ _ _ _ (G2.out.mono K3.out) G3.out Snf.out (sm_small _ (Nat.lt_of_lt_of_le Pl.out (by rw [B64_eq];decide)))).mono ?_;rintro e w4 ⟨v4,rfl,h4,k4⟩;have G4:=ZZ h4;have K4:=ZZ (al K1.out (al K2.out (al K3.out k4)));clear h4 k4;go_wp2_with fail
    go_roundg (gk - 1)
    case measure=>have:=HZ0.out;omega
    case rel=>exact⟨pos+1,_,0,1,by have:=HPOS.out;have:=HZ0.out;omega,rfl,rfl,G4.out,by rw [←HVAL.out];omega,⟨by omega,0,by omega,rfl⟩,(K4.out.block _ (lt_of_block HIT2.out)).trans HIT2.out,al HEX2.out K4.out⟩
   ·have t1:(10*(f':Int) == 1000000000000000000)=false:=by rw [beq_eq_false_iff_ne];omega
    have HF:=ZZ hf;clear hf;go_wp2_with fail
    go_roundg (gk - 1)
    case measure=>have:=HZ0.out;omega
    case rel=>exact⟨pos+1,N,10*p'+d,10*f',by have:=HPOS.out;have:=HZ0.out;omega,by push_cast;rfl,by push_cast;rfl,HN2.out,by
     rw [HST.out,←HV.out]
     have:N*(10*f')=10*(N*f'):=by rw [Nat.mul_left_comm]
     omega,by
     rcases HNEXT.out with h|h
     ·exact absurd h HF.out
     ·exact h,HIT2.out,HEX2.out⟩
structure ElT (P:Program) (S T:TypeId) (s bytes:Nat) (z:Value):Prop where
 und:P.underlying S=some (.slice T)
 inf:∃i,P.info? T=some i∧i.zero=some z∧i.size=s∧i.bytes=bytes
 sz:z.cells.size=s
 pos:0<s
def OwnG (w:World) (B:Nat) (T:TypeId) (s:Nat) (C:Value→Prop) (v:Value) (n:Nat) (xs:List Value):Prop:=
 xs.length=n*s∧((v=.slice none 0 0∧n=0)∨∃g cap cur,v=.slice (some ⟨g,0,none⟩) n cap∧B≤g∧w.heap[g]?=some (.cells cur T (0,0))∧n≤cap∧cap≤maxLen∧cur.size=cap*s∧cur.toList.take (n*s)=xs∧∀c ∈ cur.toList,C c)
theorem OwnG.nil (w:World) (B:Nat) (T:TypeId) (s:Nat) (C:Value→Prop):OwnG w B T s C (.slice none 0 0) 0 []:=⟨by simp,.inl ⟨rfl,rfl⟩⟩
theorem zero_kind {C:Value→Prop} {z:Array Value} (hz:∀c ∈ z.toList,C c) (h0:0<z.size) (n:Nat):∀c ∈ (Builtin.zeroCells z n).toList,C c:=by
 intro c hc;rw [Array.mem_toList_iff] at hc
 simp only [Builtin.zeroCells,Array.mem_map,Array.mem_range] at hc
 obtain⟨i,-,rfl⟩:=hc;have hlt:i % z.size<z.size:=Nat.mod_lt _ h0;rw [getElem!_pos z (i % z.size) hlt];exact hz _ (by simp)
theorem run_appendG2 {P:Program} {S T:TypeId} {s bytes:Nat} {z:Value} (E:ElT P S T s bytes z) {C:Value→Prop} (hC0:∀c ∈ z.cells.toList,C c) (w:World) (B:Nat) (ty:TypeId) (v:Value) (n:Nat) (xs:List Value) (hown:OwnG w B T s C v n xs) (a:Addr) (m c:Nat) (news:List Value) (hl:news.length=m*s) (hnews:∀j u,news[j]?=some u→w.cell? (a.add j)=some u) (h1:∀u ∈ news,u.oneCell'=true) (hu:∀u ∈ news,C u) (hm:0<m) (hn:(n+m)*bytes≤140737488355328) (h63:n+m≤maxLen) (hB:B≤w.heap.size):∃v' w',(Builtin.append_ #[S,S] ty #[v,.slice (some a) m c]).run P w=.ok v' w'∧OwnG w' B T s C v' (n+m) (xs ++ news)∧w.grownBy w' v.ownBlock∧(v'.ownBlock=v.ownBlock∨v'.ownBlock=some w.heap.size):=by
 obtain⟨i,hi,hz0,hz1,hz2⟩:=E.inf;have ht:=E.und;have hML:maxLen=9223372036854775807:=by unfold maxLen;rfl
 have grown:∀(old:Nat) (row:Option Nat),xs.length=n*s→(∀c ∈ xs,C c)→OwnG (w.drew.alloc (.cells (xs.toArray ++ news.toArray ++ Builtin.zeroCells z.cells (grownCap w (n+m) old T - (n+m))) T)) B T s C (.slice (some ⟨w.heap.size,0,none⟩) (n+m) (grownCap w (n+m) old T)) (n+m) (xs ++ news)∧w.grownBy (w.drew.alloc (.cells (xs.toArray ++ news.toArray ++ Builtin.zeroCells z.cells (grownCap w (n+m) old T - (n+m))) T)) row:=by
  intro old row hxl hxu;have hge:=grownCap_ge w (n+m) old T;have hcm:grownCap w (n+m) old T≤maxLen:=grownCap_le_maxLen w (n+m) old T h63;have hlen:(xs ++ news).length=(n+m)*s:=by rw [List.length_append,hxl,hl,Nat.add_mul]
  refine⟨⟨hlen,.inr ⟨w.heap.size,_,_,rfl,hB,heap_alloc_new w.drew _,hge,hcm,?_,?_,?_⟩⟩,⟨rfl,rfl,rfl,by simp,fun k hk _=>heap_alloc_old w.drew _ hk⟩⟩
  ·simp only [Array.size_append,List.size_toArray,size_zeroCells,hxl,hl,E.sz]
   rw [←Nat.add_mul,←Nat.add_mul]
   congr 1
   omega
  ·simp only [Array.toList_append,List.append_assoc]
   rw [←List.append_assoc,←hlen];exact List.take_left
  ·intro c hc
   simp only [Array.toList_append,List.mem_append] at hc
   rcases hc with (hc|hc)|hc
   ·exact hxu c hc
   ·exact hu c hc
   ·exact zero_kind hC0 (by rw [E.sz];exact E.pos) _ c hc
 obtain⟨hxl,h2⟩:=hown
 rcases h2 with ⟨rfl,rfl⟩|⟨g,cap,cur,rfl,hbg,hg,hnc,hcm,hcs,htake,hnu⟩
 ·have hx:xs=[]:=List.eq_nil_of_length_eq_zero (by simpa using hxl)
  subst hx;have hr:=run_append_nil (P:=P) w S ty T i z ht hi hz0 a m c news (by rw [hl,hz1]) hnews hm (by omega) (by rw [hz2];rw [Nat.zero_add] at hn;omega);have hgr:=grown 0 (Value.ownBlock (.slice none 0 0)) (by simp) (fun c hc=>by cases hc)
  simp only [Nat.zero_add,List.nil_append,Array.empty_append] at hgr ⊢
  exact⟨_,_,hr,hgr.1,hgr.2,.inr rfl⟩
 ·have hxu:∀c ∈ xs,C c:=fun c hc=>hnu c (List.mem_of_mem_take (by rw [htake];exact hc))
  by_cases hroom:n+m≤cap
  ·have hcap:(n+m)*s≤cap*s:=Nat.mul_le_mul_right _ hroom
   have hfit:n*i.size+news.length≤cur.size:=by rw [hl,hcs,hz1,←Nat.add_mul];exact hcap
   have hr:=run_append_room (P:=P) w S ty T i ht hi g n cap cur hg a m c news (by rw [hl,hz1]) hnews h1 hroom hfit;rw [hz1] at hr;refine⟨_,_,hr,⟨by rw [List.length_append,hxl,hl,Nat.add_mul],.inr ⟨g,cap,_,rfl,hbg,setRow_heap w g cur _ _ _ hg,hroom,hcm,?_,?_,?_⟩⟩,⟨rfl,rfl,rfl,by simp,fun k _ hk=>setRow_other w g k _ (fun e=>hk (by simp [Value.ownBlock,e]))⟩,.inl rfl⟩
   ·rw [Nat.add_mul] at hcap
    simp only [List.size_toArray,List.length_append,List.length_take,List.length_drop,Array.length_toList]
    omega
   ·rw [htake,show (n+m)*s=(xs ++ news).length by rw [List.length_append,hxl,hl,Nat.add_mul]]
    exact List.take_left
   ·intro c hc
    simp only [List.mem_append] at hc
    rcases hc with (hc|hc)|hc
    ·rw [htake] at hc;exact hxu c hc
    ·exact hu c hc
    ·exact hnu c (List.mem_of_mem_drop hc)
  ·have holds:∀j u,xs[j]?=some u→w.cell? ((⟨g,0,none⟩:Addr).add j)=some u:=fun j u hj=>by
    have hc:w.cell? ⟨g,j,none⟩=some u:=by
     rw [cell_of_row w g j _ _ _ hg];rw [←htake,List.getElem?_take] at hj
     split at hj
     ·simpa using hj
     ·cases hj
    by_cases h0:j=0
    ·subst h0;exact hc
    ·simpa [Addr.add,h0] using hc
   have hr:=run_append_grow (P:=P) w S ty T i z ht hi hz0 ⟨g,0,none⟩ n cap xs (by rw [hxl,hz1]) holds a m c news (by rw [hl,hz1]) hnews (by omega) (by omega) (growslice_fits (by omega) (by rw [hz2];exact hn));have hgr:=grown cap (Value.ownBlock (.slice (some ⟨g,0,none⟩) n cap)) hxl hxu;exact⟨_,_,hr,hgr.1,hgr.2,.inr rfl⟩
theorem run_appendG {P:Program} {S T:TypeId} {s bytes:Nat} {z:Value} (E:ElT P S T s bytes z) {C:Value→Prop} (hC0:∀c ∈ z.cells.toList,C c) (w:World) (B:Nat) (ty:TypeId) (v:Value) (n:Nat) (xs:List Value) (hown:OwnG w B T s C v n xs) (a:Addr) (m c:Nat) (news:List Value) (hl:news.length=m*s) (hnews:∀j u,news[j]?=some u→w.cell? (a.add j)=some u) (h1:∀u ∈ news,u.oneCell'=true) (hu:∀u ∈ news,C u) (hm:0<m) (hn:(n+m)*bytes≤140737488355328) (h63:n+m≤maxLen) (hB:B≤w.heap.size):∃v' w',(Builtin.append_ #[S,S] ty #[v,.slice (some a) m c]).run P w=.ok v' w'∧OwnG w' B T s C v' (n+m) (xs ++ news)∧w.grownBy w' v.ownBlock:=by
 obtain⟨v',w',h1',h2,h3,-⟩:=run_appendG2 E hC0 w B ty v n xs hown a m c news hl hnews h1 hu hm hn h63 hB;exact⟨v',w',h1',h2,h3⟩
theorem oper_appendG {P:Program} {o:Oper} {a:Act} {w w':World} {K:Act→World→Prop} {Q:Exit→Act→World→Prop} {T1 T2:TypeId} {ad:Addr} {m c:Nat} {v v':Value} (s x:Operand) (ho:o.op=.call { callee:=.builtin .append,args:=#[s,x],argTypes:=#[T1,T2] }) (hs:a.eval s=v) (hx:a.eval x=.slice (some ad) m c) (hr:(Builtin.append_ #[T1,T2] o.type #[v,.slice (some ad) m c]).run P w=.ok v' w') (hk:K (a.put o.dst v') w'):Oper.wp P o a w K Q:=by
 unfold Oper.wp execOp
 simp only [ho,resolve,invoke,builtin,Sem.run_bind,Sem.run_pure,Result.andThen_ok,List.map_toArray,List.map_cons,List.map_nil,hs,hx,hr]
 exact hk
theorem wpList_appendG2 {P:Program} {S T:TypeId} {sz bytes:Nat} {z:Value} (E:ElT P S T sz bytes z) {C:Value→Prop} (hC0:∀c ∈ z.cells.toList,C c) {ops:Array Oper} {rest:List Oper} {o:Oper} {a:Act} {w:World} {Q:Exit→Act→World→Prop} (hgd:o.guard=none) (s x:Operand) (ho:o.op=.call { callee:=.builtin .append,args:=#[s,x],argTypes:=#[S,S] }) (B:Nat) (v:Value) (n:Nat) (xs:List Value) (hs:a.eval s=v) (hown:OwnG w B T sz C v n xs) (ad:Addr) (m c:Nat) (news:List Value) (hx:a.eval x=.slice (some ad) m c) (hl:news.length=m*sz) (hnews:∀j u,news[j]?=some u→w.cell? (ad.add j)=some u) (h1:∀u ∈ news,u.oneCell'=true) (hu:∀u ∈ news,C u) (hm:0<m) (hn:(n+m)*bytes≤140737488355328) (h63:n+m≤maxLen) (hB:B≤w.heap.size) (h:∀v' w',OwnG w' B T sz C v' (n+m) (xs ++ news)→w.grownBy w' v.ownBlock→(v'.ownBlock=v.ownBlock∨v'.ownBlock=some w.heap.size)→wpList P ops Q rest (a.put o.dst v') w'):wpList P ops Q (o :: rest) a w:=by
 refine wpList_plain hgd fun K hK=>?_;obtain⟨v',w',hr,h2,h3,h4⟩:=run_appendG2 E hC0 w B o.type v n xs hown ad m c news hl hnews h1 hu hm hn h63 hB;exact oper_appendG s x ho hs hx hr (hK _ _ (h v' w' h2 h3 h4))
theorem OwnG.lt {w:World} {B:Nat} {T:TypeId} {s:Nat} {C:Value→Prop} {v:Value} {n:Nat} {xs:List Value} (h:OwnG w B T s C v n xs):∀k,v.ownBlock=some k→B≤k∧k<w.heap.size:=by
 intro k hk;obtain⟨-,h2⟩:=h
 rcases h2 with ⟨rfl,-⟩|⟨g,cap,cur,rfl,hb,hh,-⟩
 ·cases hk
 ·obtain rfl:g=k:=Option.some.inj hk
  exact⟨hb,lt_of_block hh⟩
theorem OwnG.mono {w w':World} {B:Nat} {T:TypeId} {s:Nat} {C:Value→Prop} {v:Value} {n:Nat} {xs:List Value} (h:OwnG w B T s C v n xs) (k:Ext w w'):OwnG w' B T s C v n xs:=by
 obtain⟨h1,h2⟩:=h;refine⟨h1,?_⟩
 rcases h2 with h2|⟨g,cap,cur,e,hb,hh,hr⟩
 ·exact .inl h2
 ·exact .inr ⟨g,cap,cur,e,hb,(k.block _ (lt_of_block hh)).trans hh,hr⟩
theorem OwnG.kind {w:World} {B:Nat} {T:TypeId} {s:Nat} {C:Value→Prop} {v:Value} {n:Nat} {xs:List Value} (h:OwnG w B T s C v n xs) {g j:Nat} (hg:v.ownBlock=some g) {c:Value} (hc:w.cell? ⟨g,j,none⟩=some c):C c:=by
 obtain⟨-,h2⟩:=h
 rcases h2 with ⟨rfl,-⟩|⟨g',cap,cur,rfl,-,hh,-,-,-,-,hnu⟩
 ·cases hg
 ·obtain rfl:g'=g:=Option.some.inj hg
  rw [cell_of_row w g' j _ _ _ hh] at hc;exact hnu _ (by rw [Array.mem_toList_iff];exact Array.mem_of_getElem? hc)
theorem ext_grownG {w0 w w':World} {u:Value} {T:TypeId} {s:Nat} {C:Value→Prop} {n:Nat} {xs:List Value} (h:Ext w0 w) (hown:OwnG w w0.heap.size T s C u n xs) (hg:w.grownBy w' u.ownBlock):Ext w0 w':=
 Below.grown h hg h.size (fun k hk=>(hown.lt k hk).1)
theorem OwnG.cells {w:World} {B:Nat} {T:TypeId} {s:Nat} {C:Value→Prop} {v:Value} {n:Nat} {xs:List Value} (h:OwnG w B T s C v n xs) (hn:0<n):∃g cap,v=.slice (some ⟨g,0,none⟩) n cap∧B≤g∧n≤cap∧∀j u,xs[j]?=some u→w.cell? ⟨g,j,none⟩=some u:=by
 obtain⟨-,h2⟩:=h
 rcases h2 with ⟨-,h0⟩|⟨g,cap,cur,rfl,hb,hg,hc,-,-,ht,-⟩
 ·omega
 ·refine⟨g,cap,rfl,hb,hc,fun j u hu=>?_⟩
  rw [cell_of_row w g j _ _ _ hg];rw [←ht,List.getElem?_take] at hu
  split at hu
  ·simpa using hu
  ·cases hu
theorem Nm.grownG {w w':World} {v u:Value} {q:Rat} {B:Nat} {T:TypeId} {s:Nat} {C:Value→Prop} {n:Nat} {xs:List Value} (h:Nm w v q) (hown:OwnG w B T s C u n xs) (hC:∀z,¬ C (.int .u64 z)) (hg:w.grownBy w' u.ownBlock):Nm w' v q:=by
 have key:∀ {vv:Value} {m:Nat},Wd w vv m→Wd w' vv m:=by
  intro vv m hw;obtain⟨A,cc,e,hc,hcl⟩:=hw;refine⟨A,cc,e,hc,?_⟩
  rcases Nat.eq_zero_or_pos (dg m).length with h0|h0
  ·left;rw [List.length_eq_zero_iff.1 h0];rfl
  ·obtain⟨bl,o,hA,hce⟩:=hcl.at_ (by simpa using h0)
   right
   refine⟨bl,o,hA,fun j hj=>hg.cell (hce j hj) fun hb=>?_⟩;have hj':j<(dg m).length:=by simpa using hj
   have h1:=hce j hj;rw [getD_map_u64 _ _ hj'] at h1;exact hC _ (hown.kind hb.symm h1)
 obtain⟨vn,vd,e,h1,h2⟩:=h;exact⟨vn,vd,e,key h1,key h2⟩
def isSl (c:Value):Prop:=∃A k n,c=.slice A k n
theorem info_pl:(Tryz.prog.info? 27).map (fun i=>(i.zero,i.size,i.bytes))=some (some (.slice none 0 0),1,24):=by kernel_rfl
theorem elPl:ElT Tryz.prog 69 27 1 24 (.slice none 0 0):=
 ⟨Tryz.underlying69,by obtain⟨i,hi,h1,h2,h3⟩:=info_parts info_pl;exact⟨i,hi,h1,h2,h3⟩,rfl,by decide⟩
theorem zero_sl:∀c ∈ (Value.slice none 0 0).cells.toList,isSl c:=by
 intro c hc;rw [show (Value.slice none 0 0).cells.toList=[.slice none 0 0] from rfl] at hc;rw [List.mem_singleton.1 hc];exact⟨_,_,_,rfl⟩
abbrev OwnV (w:World) (B:Nat) (v:Value) (n:Nat) (xs:List Value):Prop:=OwnG w B 27 1 isSl v n xs
theorem Pl.grownS {w w':World} {v u:Value} {l:List Rat} {B n:Nat} {xs:List Value} (h:Pl w v l) (hown:OwnV w B u n xs) (hg:w.grownBy w' u.ownBlock):Pl w' v l:=by
 obtain⟨A,cap,e,hc,hA⟩:=h;refine⟨A,cap,e,hc,?_⟩
 rcases hA with h|⟨b,o,e1,ht⟩
 ·exact .inl h
 ·refine .inr ⟨b,o,e1,fun i q hq=>?_⟩
  obtain⟨s,A1,m,ca,B1,n1,cb,h1,h2,h3,h4⟩:=ht i q hq
  have hb:some b≠u.ownBlock:=fun hb=>by
   obtain⟨A2,k2,n2,e2⟩:=hown.kind hb.symm h1
   cases e2
  exact⟨s,A1,m,ca,B1,n1,cb,hg.cell h1 hb,hg.cell h2 hb,hg.cell h3 hb,h4.grownG hown (fun z ⟨A2,k2,n2,e2⟩=>by cases e2) hg⟩
def OwnL (w:World) (B:Nat) (v:Value) (ls:List (List Rat)):Prop:=∃xs,OwnV w B v ls.length xs∧∀(i:Nat) (l:List Rat),ls[i]?=some l→∃u,xs[i]?=some u∧Pl w u l
theorem OwnL.nil (w:World) (B:Nat):OwnL w B (.slice none 0 0) []:=⟨[],OwnG.nil _ _ _ _ _,fun i l h=>by cases h⟩
theorem OwnL.mono {w w':World} {B:Nat} {v:Value} {ls:List (List Rat)} (h:OwnL w B v ls) (k:Ext w w'):OwnL w' B v ls:=by
 obtain⟨xs,h1,h2⟩:=h;exact⟨xs,h1.mono k,fun i l hl=>by obtain⟨u,e,hp⟩:=h2 i l hl;exact⟨u,e,hp.mono k⟩⟩
theorem OwnL.pll {w:World} {B:Nat} {v:Value} {ls:List (List Rat)} (h:OwnL w B v ls):PlL w v ls:=by
 obtain⟨xs,h1,h2⟩:=h
 rcases Nat.eq_zero_or_pos ls.length with h0|h0
 ·rcases h1.2 with ⟨e,-⟩|⟨g,cap,cur,e,-,-,hc,-⟩
  ·rw [List.length_eq_zero_iff.1 h0]
   exact⟨none,0,e,Nat.le_refl _,.inl ⟨rfl,rfl⟩⟩
  ·exact⟨_,cap,e,hc,.inr ⟨g,0,rfl,fun i l hl=>by rw [List.length_eq_zero_iff.1 h0] at hl;cases hl⟩⟩
 ·obtain⟨g,cap,e,-,hc,hcell⟩:=h1.cells h0
  refine⟨_,cap,e,hc,.inr ⟨g,0,rfl,fun i l hl=>?_⟩⟩;obtain⟨u,hu,hp⟩:=h2 i l hl;exact⟨u,by rw [Nat.zero_add];exact hcell _ _ hu,hp⟩
theorem OwnL.snoc {w w':World} {B:Nat} {v v' u:Value} {ls:List (List Rat)} {xs:List Value} {l:List Rat} (hown:OwnV w B v ls.length xs) (hx:∀(i:Nat) (l:List Rat),ls[i]?=some l→∃u,xs[i]?=some u∧Pl w u l) (hu:Pl w u l) (hg:w.grownBy w' v.ownBlock) (h:OwnV w' B v' (ls.length+1) (xs ++ [u])):OwnL w' B v' (ls ++ [l]):=by
 have hxl:xs.length=ls.length:=by have:=hown.1;omega
 refine⟨_,by rw [List.length_append];exact h,fun i m hm=>?_⟩
 rcases Nat.lt_or_ge i ls.length with hi|hi
 ·rw [List.getElem?_append_left hi] at hm
  obtain⟨u',e,hp⟩:=hx i m hm;exact⟨u',by rw [List.getElem?_append_left (by omega)];exact e,hp.grownS hown hg⟩
 ·rw [List.getElem?_append_right hi] at hm
  have hi0:i - ls.length=0:=by
   rcases Nat.eq_zero_or_pos (i - ls.length) with e|e
   ·exact e
   ·obtain⟨d,hd⟩:∃d,i - ls.length=d+1:=⟨i - ls.length - 1,by omega⟩
    rw [hd] at hm;simp at hm
  rw [hi0] at hm;obtain rfl:l=m:=Option.some.inj hm;exact⟨u,by rw [List.getElem?_append_right (by omega),show i - xs.length=0 by omega];rfl,hu.grownS hown hg⟩
theorem cell1_new (w:World) (a:Value) (T:TypeId):∀(j:Nat) (u:Value),[a][j]?=some u→(w.alloc (.cells #[a] T)).cell? ((⟨w.heap.size,0,none⟩:Addr).add j)=some u:=by
 intro j u hu
 match j,hu with
 | 0,hu=>obtain rfl:a=u:=Option.some.inj hu;exact(cell_of_row _ _ 0 _ _ _ (heap_alloc_new w (.cells #[a] T))).trans rfl
theorem Pl.form {w:World} {v:Value} {l:List Rat} (h:Pl w v l):∃A n c,v=.slice A n c∧l.length=n:=by
 obtain⟨A,c,e,-⟩:=h;exact⟨_,_,_,e,rfl⟩
theorem zip_len (p q:List Rat) (N:Nat) (hp:p.length≤N) (hq:q.length≤N):(zipA p q).length≤N:=by
 induction p generalizing q N with
 | nil=>exact hq
 | cons a p ih=>
  cases q with
  | nil=>exact hp
  | cons b q=>
   obtain⟨n,rfl⟩:∃n,N=n+1:=⟨N - 1,by simp at hp;omega⟩
   have:=ih q n (by simpa using hp) (by simpa using hq)
   show (zipA p q).length+1≤n+1
   omega
theorem add_len (p q:List Rat) (N:Nat) (hp:p.length≤N) (hq:q.length≤N):(addF p q).length≤N:=Nat.le_trans (trim_le _) (zip_len p q N hp hq)
theorem sub_len (p q:List Rat) (N:Nat) (hp:p.length≤N) (hq:q.length≤N):(subF p q).length≤N:=add_len p _ N hp (Nat.le_trans (scale_len _ _) hq)
def partsU:Nat→List Rat→List Rat→List (List Rat)
 | 0,_,_=>[]
 | n+1,b,c=>if 1<(trimF b).length then commonF b (subF c (derivF b)) :: partsU n (divF b (commonF b (subF c (derivF b)))).1 (divF (subF c (derivF b)) (commonF b (subF c (derivF b)))).1 else []
end Go.Proofs.YtkoaakefgacokaaGreatDoor
