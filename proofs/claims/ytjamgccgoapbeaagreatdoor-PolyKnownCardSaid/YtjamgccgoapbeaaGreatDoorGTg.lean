/- Texts: rows of digits. Texts: cut at a byte. Texts: the number that decimal digits are. Texts: reading a number. Printed by gen_tg.py. Plain laws of spans: results of numbers are in the results of their spans. Plain laws of spans: what the reference computes of the ends is what the program computes. A store of a number into a row of the call's own. Sums of polynomials, plain: what out holds after j rounds. Texts: the numeral of one word. -/
import Derived.Test.YtjamgccgoapbeaaGreatDoorGShelf
import Derived.Test.YtjamgccgoapbeaaGreatDoorGQf
import Derived.Test.YtjamgccgoapbeaaGreatDoorGWj
import Derived.Shelf.Strings.SlTrimAscii
import Derived.Deep.QuietTactic
import Derived.BigQuiet
import Derived.Test.YtjamgccgoapbeaaGreatDoorGRat
import Derived.Test.YtjamgccgoapbeaaGreatDoorGVa
import Derived.Lib.OthersKept
import Derived.Deep.LoopGhost
import Derived.Test.YtjamgccgoapbeaaGreatDoorGNd
import Derived.Test.YtjamgccgoapbeaaGreatDoorGNh
import Derived.Test.YtjamgccgoapbeaaGreatDoorGWh
import Derived.Lib.ItoaMem
import Derived.Lib.AppendIntMem
set_option linter.unusedVariables false
set_option maxRecDepth 100000
set_option maxHeartbeats 64000000
namespace Go.Proofs.YtjamgccgoapbeaaGreatDoor
open Go.RowKit
end Go.Proofs.YtjamgccgoapbeaaGreatDoor
set_option linter.unusedVariables false
set_option maxRecDepth 100000
set_option maxHeartbeats 64000000
namespace Go.Proofs.YtjamgccgoapbeaaGreatDoor
open Go.RowKit
end Go.Proofs.YtjamgccgoapbeaaGreatDoor
set_option linter.unusedVariables false
set_option maxRecDepth 100000
set_option maxHeartbeats 64000000
namespace Go.Proofs.YtjamgccgoapbeaaGreatDoor
open Go.RowKit
end Go.Proofs.YtjamgccgoapbeaaGreatDoor
set_option linter.unusedVariables false
set_option maxRecDepth 100000
set_option maxHeartbeats 64000000
namespace Go.Proofs.YtjamgccgoapbeaaGreatDoor
open Go.RowKit
end Go.Proofs.YtjamgccgoapbeaaGreatDoor
set_option linter.unusedVariables false
set_option maxRecDepth 100000
set_option maxHeartbeats 64000000
namespace Go.Proofs.YtjamgccgoapbeaaGreatDoor
def joinQ (s t:Rat × Rat):Rat × Rat:=(aq s.1 t.1,ar s.2 t.2)
def mulS (a b c d:Rat):Rat × Rat:=joinQ (ap (a*c) (a*d)) (ap (b*c) (b*d))
end Go.Proofs.YtjamgccgoapbeaaGreatDoor
set_option linter.unusedVariables false
set_option maxRecDepth 100000
set_option maxHeartbeats 64000000
namespace Go.Proofs.YtjamgccgoapbeaaGreatDoor
open Go.RowKit
end Go.Proofs.YtjamgccgoapbeaaGreatDoor
set_option linter.unusedVariables false
set_option maxRecDepth 100000
set_option maxHeartbeats 64000000
namespace Go.Proofs.YtjamgccgoapbeaaGreatDoor
open Go.RowKit
theorem row_set {W:World} {g j:Nat} {cs:Array Value} {T:TypeId} (h:W.heap[g]?=some (.cells cs T (0,0))) (v:Value):(W.setCell ⟨g,j,none⟩ v).heap[g]?=some (.cells (cs.setIfInBounds j v) T (0,0)):=by
 simp only [World.setCell,Array.getElem?_modify,h]
 simp
theorem frozen_row {W:World} {g:Nat} {cs:Array Value} {T:TypeId} (h:W.heap[g]?=some (.cells cs T (0,0))) (j:Nat):W.frozen? ⟨g,j,none⟩=false:=by
 simp [World.frozen?,h]
def put3at (W:World) (g j:Nat) (a b c:Value):World:=((W.setCell ⟨g,j,none⟩ a).setCell ⟨g,j+1,none⟩ b).setCell ⟨g,j+2,none⟩ c
theorem put3at_row {W:World} {g j:Nat} {cs:Array Value} {T:TypeId} (h:W.heap[g]?=some (.cells cs T (0,0))) (a b c:Value):(put3at W g j a b c).heap[g]?=some (.cells (((cs.setIfInBounds j a).setIfInBounds (j+1) b).setIfInBounds (j+2) c) T (0,0)):=
 row_set (row_set (row_set h a) b) c
theorem put3at_cell {W:World} {g j:Nat} {cs:Array Value} {T:TypeId} (h:W.heap[g]?=some (.cells cs T (0,0))) (a b c:Value) (b' i:Nat) (hne:b'≠g∨(i≠j∧i≠j+1∧i≠j+2)):(put3at W g j a b c).cell? ⟨b',i,none⟩=W.cell? ⟨b',i,none⟩:=by
 by_cases hb:b'=g
 ·subst hb
  obtain⟨h1,h2,h3⟩:=hne.resolve_left (fun e=>e rfl);rw [cell_of_row _ b' i _ _ _ (put3at_row h a b c),cell_of_row _ b' i _ _ _ h];rw [Array.getElem?_setIfInBounds_ne (Ne.symm h3),Array.getElem?_setIfInBounds_ne (Ne.symm h2),Array.getElem?_setIfInBounds_ne (Ne.symm h1)]
 ·refine World.cell?_of_block ?_
  unfold put3at;rw [Below.heap_setCell _ _ _ _ hb,Below.heap_setCell _ _ _ _ hb,Below.heap_setCell _ _ _ _ hb]
theorem put3at_new {W:World} {g j:Nat} {cs:Array Value} {T:TypeId} (h:W.heap[g]?=some (.cells cs T (0,0))) (hj:j+2<cs.size) (a b c:Value):(put3at W g j a b c).cell? ⟨g,j,none⟩=some a∧(put3at W g j a b c).cell? ⟨g,j+1,none⟩=some b∧(put3at W g j a b c).cell? ⟨g,j+2,none⟩=some c:=by
 have hr:=put3at_row h a b c (j:=j);refine⟨?_,?_,?_⟩
 ·rw [cell_of_row _ g j _ _ _ hr,Array.getElem?_setIfInBounds_ne (by omega),Array.getElem?_setIfInBounds_ne (by omega),Array.getElem?_setIfInBounds_self_of_lt (by omega)]
 ·rw [cell_of_row _ g (j+1) _ _ _ hr,Array.getElem?_setIfInBounds_ne (by omega),Array.getElem?_setIfInBounds_self_of_lt (by simp;omega)]
 ·rw [cell_of_row _ g (j+2) _ _ _ hr,Array.getElem?_setIfInBounds_self_of_lt (by simp;omega)]
theorem Nm.put3at {W:World} {v u:Value} {q:Rat} {g i:Nat} {l:List Rat} (h:Nm W v q) (ho:PlO W g u l) (hi:i<l.length) (a b c:Value):Nm (put3at W g (i*3) a b c) v q:=by
 obtain⟨cap,cur,-,hh,-⟩:=id ho;refine h.keepC ho.noU fun b' j hne=>put3at_cell hh a b c b' j ?_
 rcases hne with hne|hne
 ·exact .inl hne
 ·exact .inr (by omega)
theorem PlO.set {W:World} {g i:Nat} {v:Value} {l:List Rat} {q:Rat} {s:Bool} {A C:Option Addr} {k ca m cb:Nat} (h:PlO W g v l) (hi:i<l.length) (hq:Nm W (.agg #[.bool s,.slice A k ca,.slice C m cb]) q):PlO (put3at W g (i*3) (.bool s) (.slice A k ca) (.slice C m cb)) g v (l.set i q):=by
 obtain⟨cap,cur,e,hh,h1,h2,h3,h4⟩:=id h;have hsz:i*3+2<cur.size:=by rw [h3];omega
 refine⟨cap,_,by rw [List.length_set];exact e,put3at_row hh _ _ _,by rw [List.length_set];exact h1,h2,by simpa using h3,fun j r hr=>?_⟩
 by_cases hj:i=j
 ·subst hj
  rw [List.getElem?_set_self hi] at hr;obtain rfl:q=r:=Option.some.inj hr;obtain⟨n0,n1,n2⟩:=put3at_new hh hsz (.bool s) (.slice A k ca) (.slice C m cb);exact⟨s,A,k,ca,C,m,cb,n0,n1,n2,hq.put3at h hi _ _ _⟩
 ·rw [List.getElem?_set_ne hj] at hr
  obtain⟨s1,A1,k1,ca1,C1,m1,cb1,c0,c1,c2,hn⟩:=h4 j r hr;exact⟨s1,A1,k1,ca1,C1,m1,cb1,by rw [put3at_cell hh _ _ _ g _ (.inr (by omega))];exact c0,by rw [put3at_cell hh _ _ _ g _ (.inr (by omega))];exact c1,by rw [put3at_cell hh _ _ _ g _ (.inr (by omega))];exact c2,hn.put3at h hi _ _ _⟩
end Go.Proofs.YtjamgccgoapbeaaGreatDoor
set_option linter.unusedVariables false
set_option maxRecDepth 100000
set_option maxHeartbeats 64000000
namespace Go.Proofs.YtjamgccgoapbeaaGreatDoor
def stepL (p q:List Rat) (j:Nat):List Rat:=(List.range p.length).map fun i=>if i<j then co p i+co q i else co p i
theorem stepL_len (p q:List Rat) (j:Nat):(stepL p q j).length=p.length:=by simp [stepL]
theorem stepL_get (p q:List Rat) (j:Nat) {i:Nat} (hi:i<p.length):(stepL p q j)[i]?=some (if i<j then co p i+co q i else co p i):=by
 unfold stepL;rw [List.getElem?_map,List.getElem?_range hi];rfl
theorem stepL_zero (p q:List Rat):stepL p q 0=p:=by
 apply List.ext_getElem?
 intro i
 rcases Nat.lt_or_ge i p.length with hi|hi
 ·rw [stepL_get p q 0 hi,if_neg (Nat.not_lt_zero _)]
  unfold co;rw [List.getElem?_eq_getElem hi];rfl
 ·rw [List.getElem?_eq_none hi,List.getElem?_eq_none (by rw [stepL_len];exact hi)]
theorem stepL_succ (p q:List Rat) {j:Nat} (hj:j<p.length):(stepL p q j).set j (co p j+co q j)=stepL p q (j+1):=by
 apply List.ext_getElem?
 intro i
 rcases Nat.lt_or_ge i p.length with hi|hi
 ·rw [stepL_get p q (j+1) hi]
  by_cases e:j=i
  ·subst e
   rw [List.getElem?_set_self (by rw [stepL_len];exact hi),if_pos (Nat.lt_succ_self _)]
  ·rw [List.getElem?_set_ne e,stepL_get p q j hi]
   by_cases h:i<j
   ·rw [if_pos h,if_pos (Nat.lt_succ_of_lt h)]
   ·rw [if_neg h,if_neg (by omega)]
 ·rw [List.getElem?_eq_none (by rw [List.length_set,stepL_len];exact hi),List.getElem?_eq_none (by rw [stepL_len];exact hi)]
theorem co_step (p q:List Rat) (h:q.length≤p.length) (i:Nat):co (stepL p q q.length) i=co p i+co q i:=by
 rcases Nat.lt_or_ge i p.length with hi|hi
 ·show ((stepL p q q.length)[i]?).getD 0=_
  rw [stepL_get p q _ hi]
  show (if i<q.length then co p i+co q i else co p i)=_
  by_cases hq:i<q.length
  ·rw [if_pos hq]
  ·rw [if_neg hq,co_ge (p:=q) (by omega)];grind
 ·rw [co_ge (by rw [stepL_len];exact hi),co_ge hi,co_ge (p:=q) (by omega)];grind
def addF (p q:List Rat):List Rat:=trimF (zipA p q)
theorem addF_comm (p q:List Rat):addF p q=addF q p:=trim_co fun i=>by rw [co_zip,co_zip];grind
theorem addF_step (p q:List Rat) (h:q.length≤p.length):trimF (stepL p q q.length)=addF p q:=trim_co fun i=>by rw [co_step p q h,co_zip]
end Go.Proofs.YtjamgccgoapbeaaGreatDoor
set_option linter.unusedVariables false
set_option maxRecDepth 100000
set_option maxHeartbeats 64000000
namespace Go.Proofs.YtjamgccgoapbeaaGreatDoor
open Go.RowKit Go.Sort
def Tens (w:World):Prop:=Lib.TabIs Tryz.prog w "internal/strconv.uint64pow10" .u64 Lib.pow10Tab
theorem Tens.mono {w w':World} (h:Tens w) (k:Ext w w'):Tens w':=by
 unfold Tens Lib.TabIs World.var? at *
 cases hg:Tryz.prog.globalNamed "internal/strconv.uint64pow10" with
 | none=>simp [hg] at h
 | some g=>
  simp only [hg,Option.bind_some] at h ⊢
  have hlt:g<w.heap.size:=by
   rcases Nat.lt_or_ge g w.heap.size with h'|h'
   ·exact h'
   ·rw [Array.getElem?_eq_none h'] at h;simp at h
  rw [k.block g hlt];exact h
theorem holds_zero0 (w:World) (T:TypeId) (nd:Nat) (hs:nd≤24):Holds (fun (b:UInt8)=>Value.int .u8 (b.toNat:Int)) (w.alloc (.cells Lib.zeros24 T)) w.heap.size 0 (Array.replicate nd (0:UInt8)):=fun j hj=>by
 have hj':j<nd:=by simpa using hj
 refine⟨?_,World.frozen?_alloc_new _ _ _ _⟩;rw [World.cell?_alloc_new,Lib.zeros24_at _ (by omega),getElem!_pos _ j hj]
 simp
theorem fmt_in (u:Nat) (hu64:u<18446744073709551616) (w:World) (htab:Tens w):Calls Tryz.prog 153 #[.int .u64 u,.int .i64 10] w fun e w'=>e=.returned (.string ⟨(Lib.decDigits u).toArray⟩)∧Ext w w':=by
 rcases Nat.lt_or_ge u 100 with h|h
 ·have hsm:=Tryz.internal_strconv_small u h w
  have H:=ZZ hsm;have t1:decide ((u:Int)<100)=true:=by rw [decide_eq_true_eq];omega
  clear hsm htab
  go_enter Tryz.func153,Tryz.ntmps153
  go_wp2_with fail;refine H.out.mono ?_
  rintro e w1 ⟨rfl,rfl⟩;go_wp2_with fail;go_ret;exact⟨rfl,ae _⟩
 ·have t1:decide ((u:Int)<100)=false:=by rw [decide_eq_false_iff_not];omega
  have hu1:1≤u:=by omega
  have hnd:=Lib.numDigits_eq u hu1 hu64;have hnd20:Lib.nDigits u≤20:=by split at hnd <;> omega
  have HT:=ZZ htab;have hal:Tryz.prog.arrayLen 200=24:=by kernel_rfl
  have hsl:∀W,(Instr.sliceAt 200 (.pointer (some ⟨w.heap.size,0,none⟩)) none (some (.int .i64 (Lib.nDigits u:Int))) none).run Tryz.prog W=.ok (.slice (some ⟨w.heap.size,0,none⟩) (Lib.nDigits u) 24) W:=fun W=>by
   rw [run_sliceAt_array_h W 200 ⟨w.heap.size,0,none⟩ (by kernel_rfl) .i64 (Lib.nDigits u:Int) (by omega) (by rw [hal];omega)]
   go_simp
  have hH0:=holds_zero0 w 200 (Lib.nDigits u) (by omega);have hfmt:=Tryz.internal_strconv_formatBase10 w.heap.size 0 24 u (Array.replicate (Lib.nDigits u) 0) (w.alloc (.cells Lib.zeros24 200)) hH0 (by rw [Array.size_replicate];exact Lib.lt_pow_nDigits u) hu64 (by rw [Array.size_replicate];omega);rw [Array.size_replicate] at hfmt;have hnum:=Tryz.internal_strconv_numDigits u hu1 hu64 (w.alloc (.cells Lib.zeros24 200)) (htab.mono (ab _ _));have HH0:=ZZ hH0;have HF:=ZZ hfmt;have HNM:=ZZ hnum;clear hH0 hfmt hnum hal hnd htab
  go_enter Tryz.func153,Tryz.ntmps153
  go_wp2_with fail;refine HNM.out.mono ?_
  rintro e w1 ⟨rfl,rfl⟩;go_wp2_with fail;refine HF.out.mono ?_;rintro e w2 ⟨rfl,k,v',dk,rfl,hF⟩
  have hcv:(convert 184 9 (.slice (some ⟨w.heap.size,0,none⟩) (Lib.nDigits u) 24)).run Tryz.prog ((putRow (fun (b:UInt8)=>Value.int .u8 (b.toNat:Int)) (w.alloc (.cells Lib.zeros24 200)) w.heap.size 0 dk).drewN k)=.ok (.string ⟨(Lib.decDigits u).toArray⟩) ((putRow (fun (b:UInt8)=>Value.int .u8 (b.toNat:Int)) (w.alloc (.cells Lib.zeros24 200)) w.heap.size 0 dk).drewN k):=by
   have h:=run_convert_bytes_back (P:=Tryz.prog) ((putRow (fun (b:UInt8)=>Value.int .u8 (b.toNat:Int)) (w.alloc (.cells Lib.zeros24 200)) w.heap.size 0 dk).drewN k) 184 9 5 ⟨w.heap.size,0,none⟩ 24 (Lib.decDigits u) (by kernel_rfl) (by kernel_rfl) (by kernel_rfl) (fun j hj=>by
    rw [Lib.row_is_numeral hF j hj,Lib.add_plain,World.cell?_drewN];exact cell?_putRow (fun (b:UInt8)=>Value.int .u8 (b.toNat:Int)) _ w.heap.size 0 _ dk HH0.out (by rw [hF.size,Array.size_replicate]) j (by rw [hF.size];rw [Lib.decDigits_length] at hj;exact hj))
   rw [Lib.decDigits_length] at h;exact h
  have hext:Ext w ((putRow (fun (b:UInt8)=>Value.int .u8 (b.toNat:Int)) (w.alloc (.cells Lib.zeros24 200)) w.heap.size 0 dk).drewN k):=by
   rw [alloc_eq_grow];obtain⟨os',-,e⟩:=putRow_grow_new (fun (b:UInt8)=>Value.int .u8 (b.toNat:Int)) w #[Obj.cells Lib.zeros24 200] w.heap.size 0 dk (Nat.le_refl _);rw [e];exact Lib.below_grow _ w (Nat.le_refl _) k os'
  have HE:=ZZ hext;clear hext hF;go_wp2_with fail;go_ret;exact⟨rfl,HE.out⟩
theorem fmt_c (u:Nat) (hu64:u<18446744073709551616) (w:World) (htab:Tens w):Calls Tryz.prog 111 #[.int .u64 u,.int .i64 10] w fun e w'=>e=.returned (.string ⟨(Lib.decDigits u).toArray⟩)∧Ext w w':=by
 have H:=ZZ (fmt_in u hu64 w htab);clear htab
 go_enter Tryz.func111,Tryz.ntmps111
 go_wp2_with fail;refine H.out.mono ?_
 rintro e w1 ⟨rfl,h⟩;have HX:=ZZ h;clear h;go_wp2_with fail;go_ret;exact⟨rfl,HX.out⟩
end Go.Proofs.YtjamgccgoapbeaaGreatDoor
