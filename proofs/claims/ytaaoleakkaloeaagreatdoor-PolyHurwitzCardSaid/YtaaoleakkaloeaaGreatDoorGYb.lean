/- Numbers: powers. Printed by gen_nl.py. Numbers: logarithms, integers next to a number. Printed by gen_ni.py. Numbers: rounding to significant bits. Printed by gen_nj.py. Spans: their cells; in order. Plain laws of spans: results of numbers are in the results of their spans. Plain laws of spans: what the reference computes of the ends is what the program computes. Texts: engineering texts, read. Texts: engineering texts, shown. Spans: joins, sums, meets. Printed by gen_vs.py. Spans: products. Printed by gen_vm.py. Small laws: the error of Parse, rows of three cells. Spans: whether a number is within, points, negatives, sums, differences, rounding outward. Printed by gen_sa.py. Spans of the values of a polynomial. Printed by gen_yb.py. The reference's texts: the sign, the parts, rows of digits; one. The reference's texts: parts and rows of digits. -/
import Derived.Test.YtaaoleakkaloeaaGreatDoorGQd
import Derived.Deep.LoopGhost
import Derived.Test.YtaaoleakkaloeaaGreatDoorGNg
import Derived.Test.YtaaoleakkaloeaaGreatDoorGTg
import Derived.Test.YtaaoleakkaloeaaGreatDoorGYa
import Derived.Test.YtaaoleakkaloeaaGreatDoorGTd
import Derived.Deep.DeepCutAuto
import Derived.Deep.MidRow
import Derived.Test.YtaaoleakkaloeaaGreatDoorGYh
import Derived.Deep.RegionHeld3
import Derived.Deep.QuietTactic
import Derived.BigQuiet
import Derived.Test.YtaaoleakkaloeaaGreatDoorGNe
import Derived.Test.YtaaoleakkaloeaaGreatDoorGRb
import Derived.Test.YtaaoleakkaloeaaGreatDoorGYg
set_option linter.unusedVariables false
set_option maxRecDepth 100000
set_option maxHeartbeats 64000000
namespace Go.Proofs.YtaaoleakkaloeaaGreatDoor
open Go.RowKit
end Go.Proofs.YtaaoleakkaloeaaGreatDoor
set_option linter.unusedVariables false
set_option maxRecDepth 100000
set_option maxHeartbeats 64000000
namespace Go.Proofs.YtaaoleakkaloeaaGreatDoor
open Go.RowKit
theorem bl_le {n M:Nat} (h:n<2 ^ M):bl n≤M:=by
 unfold bl
 split
 ·omega
 ·rename_i h0
  have:=(Nat.log2_lt h0).2 h
  omega
def logN (n d:Nat):Int:=
 if bl d≤bl n then (if n<d*2 ^ (bl n - bl d) then ((bl n - bl d:Nat):Int) - 1 else ((bl n - bl d:Nat):Int))
 else (if n*2 ^ (bl d - bl n)<d then -((bl d - bl n:Nat):Int) - 1 else -((bl d - bl n:Nat):Int))
def logQ (x:Rat):Int:=logN x.num.natAbs x.den
theorem logQ_bound {M:Nat} {x:Rat} (h:Bq M x):-(M:Int) - 1≤logQ x∧logQ x≤M:=by
 have h1:=bl_le h.1;have h2:=bl_le h.2;unfold logQ logN
 split <;> split <;> omega
def wholeN (n d:Nat) (away:Bool):Nat:=if away=true∧n % d≠0 then n / d+1 else n / d
def wholeQ (x:Rat) (away:Bool):Rat:=rat (decide (x.num<0)) (wholeN x.num.natAbs x.den away) 1
theorem wholeN_lt {n d B:Nat} {away:Bool} (h:n<2 ^ B):wholeN n d away<2 ^ (B+1):=by
 unfold wholeN;have h1:n / d≤n:=Nat.div_le_self _ _;rw [Nat.pow_succ]
 split <;> omega
theorem Bq.wh {B:Nat} {x:Rat} {away:Bool} (h:Bq B x):Bq (B+1) (wholeQ x away):=
 bq_rat (wholeN_lt h.1) (Nat.one_lt_two_pow (by omega)) (by decide)
end Go.Proofs.YtaaoleakkaloeaaGreatDoor
set_option linter.unusedVariables false
set_option maxRecDepth 100000
set_option maxHeartbeats 64000000
namespace Go.Proofs.YtaaoleakkaloeaaGreatDoor
open Go.RowKit
def stepQ (x:Rat) (bits:Int):Int:=logQ x - min (max bits 1) 2000+1
def aq (x:Rat) (bits:Int) (away:Bool):Rat:=if x=0 then 0 else shQ (wholeQ (shQ x (-(stepQ x bits))) away) (stepQ x bits)
theorem stepQ_bound {M:Nat} {x:Rat} (h:Bq M x) (bits:Int):(stepQ x bits).natAbs≤M+2001:=by
 have:=logQ_bound h
 unfold stepQ;omega
theorem Bq.round {M:Nat} {x:Rat} {bits:Int} {away:Bool} (h:Bq M x) (hM:0<M):Bq (3*M+4003) (aq x bits away):=by
 unfold aq
 split
 ·exact bq_zero _ (by omega)
 ·have hs:=stepQ_bound h bits
  have h1:Bq (M+(M+2001)) (shQ x (-(stepQ x bits))):=(Bq.sh h).mono (by rw [Int.natAbs_neg];omega);have h2:=(Bq.wh h1:Bq _ (wholeQ (shQ x (-(stepQ x bits))) away));exact(Bq.sh h2).mono (by omega)
end Go.Proofs.YtaaoleakkaloeaaGreatDoor
set_option linter.unusedVariables false
set_option maxRecDepth 100000
set_option maxHeartbeats 64000000
namespace Go.Proofs.YtaaoleakkaloeaaGreatDoor
open Go.RowKit
def Sp (w:World) (v:Value) (lo hi:Rat):Prop:=∃x0 x1 x2 y0 y1 y2,v=.agg #[x0,x1,x2,y0,y1,y2]∧Nm w (.agg #[x0,x1,x2]) lo∧Nm w (.agg #[y0,y1,y2]) hi
theorem Sp.mono {w w':World} {v:Value} {lo hi:Rat} (h:Sp w v lo hi) (k:Ext w w'):Sp w' v lo hi:=by
 obtain⟨x0,x1,x2,y0,y1,y2,e,h1,h2⟩:=h;exact⟨x0,x1,x2,y0,y1,y2,e,h1.mono k,h2.mono k⟩
theorem Sp.form {w:World} {v:Value} {lo hi:Rat} (h:Sp w v lo hi):∃b1 A k ca B l cb b2 C m cc D n cd,v=.agg #[.bool b1,.slice A k ca,.slice B l cb,.bool b2,.slice C m cc,.slice D n cd]∧Nm w (.agg #[.bool b1,.slice A k ca,.slice B l cb]) lo∧Nm w (.agg #[.bool b2,.slice C m cc,.slice D n cd]) hi:=by
 obtain⟨x0,x1,x2,y0,y1,y2,rfl,h1,h2⟩:=h;obtain⟨b1,A,k,ca,B,l,cb,e1⟩:=h1.form2;obtain⟨b2,C,m,cc,D,n,cd,e2⟩:=h2.form2
 simp only [Value.agg.injEq,Array.mk.injEq,List.cons.injEq,and_true] at e1 e2
 obtain⟨rfl,rfl,rfl⟩:=e1;obtain⟨rfl,rfl,rfl⟩:=e2;exact⟨b1,A,k,ca,B,l,cb,b2,C,m,cc,D,n,cd,rfl,h1,h2⟩
theorem ah {W:World} {g:Nat} {a b c d e f:Value} {T:TypeId} (h:W.heap[g]?=some (.cells #[a,b,c,d,e,f] T (0,0))):W.cell? ⟨g,0,none⟩=some a∧W.cell? ⟨g,1,none⟩=some b∧W.cell? ⟨g,2,none⟩=some c∧W.cell? ⟨g,3,none⟩=some d∧W.cell? ⟨g,4,none⟩=some e∧W.cell? ⟨g,5,none⟩=some f∧W.frozen? ⟨g,0,none⟩=false∧W.frozen? ⟨g,1,none⟩=false∧W.frozen? ⟨g,2,none⟩=false∧W.frozen? ⟨g,3,none⟩=false∧W.frozen? ⟨g,4,none⟩=false∧W.frozen? ⟨g,5,none⟩=false:=by
 refine⟨?_,?_,?_,?_,?_,?_,?_,?_,?_,?_,?_,?_⟩ <;> simp [World.cell?,World.frozen?,h]
def put6 (W:World) (g:Nat) (a b c d e f:Value):World:=(((((W.setCell ⟨g,0,none⟩ a).setCell ⟨g,1,none⟩ b).setCell ⟨g,2,none⟩ c).setCell ⟨g,3,none⟩ d).setCell ⟨g,4,none⟩ e).setCell ⟨g,5,none⟩ f
theorem af {w W:World} {g:Nat} (h:Ext w W) (hg:w.heap.size≤g) (a b c d e f:Value):Ext w (put6 W g a b c d e f):=
 ((((((h.setCell hg _).setCell hg _).setCell hg _).setCell hg _).setCell hg _).setCell hg _)
theorem ag {W:World} {g:Nat} {a0 b0 c0 d0 e0 f0:Value} {T:TypeId} (h:W.heap[g]?=some (.cells #[a0,b0,c0,d0,e0,f0] T (0,0))) (a b c d e f:Value):(put6 W g a b c d e f).heap[g]?=some (.cells #[a,b,c,d,e,f] T (0,0)):=by
 unfold put6
 simp [World.setCell,Array.getElem?_modify,h]
theorem Wd.put6 {W:World} {v:Value} {q g:Nat} {b1 b2:Bool} {A B C D:Option Addr} {k ca l cb m cc n cd:Nat} {T:TypeId} (h:Wd W v q) (hg:W.heap[g]?=some (.cells #[.bool b1,.slice A k ca,.slice B l cb,.bool b2,.slice C m cc,.slice D n cd] T (0,0))) (a b c d e f:Value):Wd (put6 W g a b c d e f) v q:=by
 obtain⟨A',cx,e',hc,hcl⟩:=h;refine⟨A',cx,e',hc,?_⟩
 rcases Nat.eq_zero_or_pos (dg q).length with h0|h0
 ·left;rw [List.length_eq_zero_iff.1 h0];rfl
 ·obtain⟨bl,o,hA,hce⟩:=hcl.at_ (by simpa using h0)
  right
  refine⟨bl,o,hA,fun j hj=>?_⟩;have hj':j<(dg q).length:=by simpa using hj
  have h1:=hce j hj
  have hne:bl≠g:=by
   intro hb;subst hb;rw [getD_map_u64 _ _ hj'] at h1
   simp only [World.cell?,hg] at h1
   rcases Nat.lt_or_ge (o+j) 6 with h3|h3
   ·rcases(show o+j=0∨o+j=1∨o+j=2∨o+j=3∨o+j=4∨o+j=5 by omega) with e|e|e|e|e|e <;> rw [e] at h1 <;> simp at h1
   ·rw [Array.getElem?_eq_none (by simpa using h3)] at h1
    simp at h1
  rw [←h1]
  apply World.cell?_of_block
  unfold Go.Proofs.YtaaoleakkaloeaaGreatDoor.put6;rw [Below.heap_setCell _ _ _ _ hne,Below.heap_setCell _ _ _ _ hne,Below.heap_setCell _ _ _ _ hne,Below.heap_setCell _ _ _ _ hne,Below.heap_setCell _ _ _ _ hne,Below.heap_setCell _ _ _ _ hne]
theorem Nm.put6 {W:World} {v:Value} {q:Rat} {g:Nat} {b1 b2:Bool} {A B C D:Option Addr} {k ca l cb m cc n cd:Nat} {T:TypeId} (h:Nm W v q) (hg:W.heap[g]?=some (.cells #[.bool b1,.slice A k ca,.slice B l cb,.bool b2,.slice C m cc,.slice D n cd] T (0,0))) (a b c d e f:Value):Nm (put6 W g a b c d e f) v q:=by
 obtain⟨vn,vd,e',h1,h2⟩:=h;exact⟨vn,vd,e',h1.put6 hg ..,h2.put6 hg ..⟩
end Go.Proofs.YtaaoleakkaloeaaGreatDoor
set_option linter.unusedVariables false
set_option maxRecDepth 100000
set_option maxHeartbeats 64000000
namespace Go.Proofs.YtaaoleakkaloeaaGreatDoor
end Go.Proofs.YtaaoleakkaloeaaGreatDoor
set_option linter.unusedVariables false
set_option maxRecDepth 100000
set_option maxHeartbeats 64000000
namespace Go.Proofs.YtaaoleakkaloeaaGreatDoor
open Go.RowKit
end Go.Proofs.YtaaoleakkaloeaaGreatDoor
set_option linter.unusedVariables false
set_option maxRecDepth 100000
set_option maxHeartbeats 64000000
namespace Go.Proofs.YtaaoleakkaloeaaGreatDoor
open Go.RowKit
def pfxs:List (List UInt8 × Int):=[([102],-15),([112],-12),([110],-9),([117],-6),([109],-3),([],0),([107],3),([77],6),([71],9),([84],12)]
def Pfx (w:World):Prop:=∀i,i<20→w.cell? ⟨0,i,none⟩=((pfxs.map fun p=>[Value.string ⟨p.1.toArray⟩,.int .i64 p.2]).flatten)[i]?
theorem Pfx.mono {w w':World} (h:Pfx w) (k:Ext w w'):Pfx w':=fun i hi=>by
 have h1:=h i hi;rw [←h1]
 have hl:i<((pfxs.map fun p=>[Value.string ⟨p.1.toArray⟩,.int .i64 p.2]).flatten).length:=by
  have:((pfxs.map fun p=>[Value.string ⟨p.1.toArray⟩,.int .i64 p.2]).flatten).length=20:=rfl
  omega
 rw [List.getElem?_eq_getElem hl] at h1;exact(am k h1).trans h1.symm
theorem Pfx.cells {w:World} (h:Pfx w):w.cell? ⟨0,0,none⟩=some (.string ⟨#[102]⟩)∧w.cell? ⟨0,1,none⟩=some (.int .i64 (-15))∧w.cell? ⟨0,2,none⟩=some (.string ⟨#[112]⟩)∧w.cell? ⟨0,3,none⟩=some (.int .i64 (-12))∧w.cell? ⟨0,4,none⟩=some (.string ⟨#[110]⟩)∧w.cell? ⟨0,5,none⟩=some (.int .i64 (-9))∧w.cell? ⟨0,6,none⟩=some (.string ⟨#[117]⟩)∧w.cell? ⟨0,7,none⟩=some (.int .i64 (-6))∧w.cell? ⟨0,8,none⟩=some (.string ⟨#[109]⟩)∧w.cell? ⟨0,9,none⟩=some (.int .i64 (-3))∧w.cell? ⟨0,10,none⟩=some (.string ⟨#[]⟩)∧w.cell? ⟨0,11,none⟩=some (.int .i64 0)∧w.cell? ⟨0,12,none⟩=some (.string ⟨#[107]⟩)∧w.cell? ⟨0,13,none⟩=some (.int .i64 3)∧w.cell? ⟨0,14,none⟩=some (.string ⟨#[77]⟩)∧w.cell? ⟨0,15,none⟩=some (.int .i64 6)∧w.cell? ⟨0,16,none⟩=some (.string ⟨#[71]⟩)∧w.cell? ⟨0,17,none⟩=some (.int .i64 9)∧w.cell? ⟨0,18,none⟩=some (.string ⟨#[84]⟩)∧w.cell? ⟨0,19,none⟩=some (.int .i64 12):=
 ⟨h 0 (by omega),h 1 (by omega),h 2 (by omega),h 3 (by omega),h 4 (by omega),h 5 (by omega),h 6 (by omega),h 7 (by omega),h 8 (by omega),h 9 (by omega),h 10 (by omega),h 11 (by omega),h 12 (by omega),h 13 (by omega),h 14 (by omega),h 15 (by omega),h 16 (by omega),h 17 (by omega),h 18 (by omega),h 19 (by omega)⟩
end Go.Proofs.YtaaoleakkaloeaaGreatDoor
set_option linter.unusedVariables false
set_option maxRecDepth 100000
set_option maxHeartbeats 64000000
namespace Go.Proofs.YtaaoleakkaloeaaGreatDoor
open Go.RowKit
theorem Nm.len {w:World} {b:Bool} {A B:Option Addr} {k c l d:Nat} {q:Rat} (h:Nm w (.agg #[.bool b,.slice A k c,.slice B l d]) q):(l=0↔q.den=1)∧Wd w (.slice A k c) q.num.natAbs:=by
 obtain⟨A',k',c',B',l',d',e,h1,h2,-,h4⟩:=h.form
 simp only [Value.agg.injEq,Array.mk.injEq,List.cons.injEq,Value.bool.injEq,Value.slice.injEq,and_true] at e
 obtain⟨-,⟨rfl,rfl,rfl⟩,⟨rfl,rfl,rfl⟩⟩:=e;exact⟨h4,h1⟩
end Go.Proofs.YtaaoleakkaloeaaGreatDoor
set_option linter.unusedVariables false
set_option maxRecDepth 100000
set_option maxHeartbeats 64000000
namespace Go.Proofs.YtaaoleakkaloeaaGreatDoor
open Go.RowKit
theorem Sp.put6 {W:World} {v:Value} {lo hi:Rat} {g:Nat} {b1 b2:Bool} {A B C D:Option Addr} {k ca l cb m cc n cd:Nat} {T:TypeId} (h:Sp W v lo hi) (hg:W.heap[g]?=some (.cells #[.bool b1,.slice A k ca,.slice B l cb,.bool b2,.slice C m cc,.slice D n cd] T (0,0))) (a b c d e f:Value):Sp (put6 W g a b c d e f) v lo hi:=by
 obtain⟨x0,x1,x2,y0,y1,y2,e',h1,h2⟩:=h;exact⟨x0,x1,x2,y0,y1,y2,e',h1.put6 hg ..,h2.put6 hg ..⟩
end Go.Proofs.YtaaoleakkaloeaaGreatDoor
namespace Go.Proofs.YtaaoleakkaloeaaGreatDoor
open Go.RowKit
end Go.Proofs.YtaaoleakkaloeaaGreatDoor
set_option linter.unusedVariables false
set_option maxRecDepth 100000
set_option maxHeartbeats 64000000
namespace Go.Proofs.YtaaoleakkaloeaaGreatDoor
open Go.RowKit
end Go.Proofs.YtaaoleakkaloeaaGreatDoor
set_option linter.unusedVariables false
set_option maxRecDepth 100000
set_option maxHeartbeats 64000000
namespace Go.Proofs.YtaaoleakkaloeaaGreatDoor
open Go.RowKit
end Go.Proofs.YtaaoleakkaloeaaGreatDoor
set_option linter.unusedVariables false
set_option maxRecDepth 100000
set_option maxHeartbeats 64000000
namespace Go.Proofs.YtaaoleakkaloeaaGreatDoor
open Go Go.RowKit Go.Shelf
set_option linter.unusedSimpArgs false
attribute [local go_sem] Oper.semAt_some
theorem put6_oth {W:World} {g k:Nat} (a b c d e f:Value) (h:k≠g):(put6 W g a b c d e f).heap[k]?=W.heap[k]?:=by
 unfold put6;rw [Below.heap_setCell _ _ _ _ h,Below.heap_setCell _ _ _ _ h,Below.heap_setCell _ _ _ _ h,Below.heap_setCell _ _ _ _ h,Below.heap_setCell _ _ _ _ h,Below.heap_setCell _ _ _ _ h]
theorem Sp.cb {W W':World} {v:Value} {lo hi:Rat} (h:Sp W v lo hi) (k:Cb W W'):Sp W' v lo hi:=by
 obtain⟨x0,x1,x2,y0,y1,y2,e,h1,h2⟩:=h;exact⟨x0,x1,x2,y0,y1,y2,e,h1.cb k,h2.cb k⟩
end Go.Proofs.YtaaoleakkaloeaaGreatDoor
set_option linter.unusedVariables false
set_option maxRecDepth 100000
set_option maxHeartbeats 64000000
namespace Go.Proofs.YtaaoleakkaloeaaGreatDoor
open Go.RowKit
theorem dr_one:dr 1=[1]:=by
 unfold dr;rw [dig_pos B30_two (by omega),B30_eq,show 1 / 1073741824=0 from rfl,dig_zero]
theorem one_f (w:World):Calls Tryz.prog 74 #[] w fun e w'=>∃v,e=.returned v∧Wr w' v 1∧Ext w w'∧Fr w.heap.size v:=by
 go_enter Tryz.func74,Tryz.ntmps74
 go_wp2
 go_ret;refine⟨_,rfl,?_,ab _ _,fun b hb=>by cases hb;exact Nat.le_refl _⟩
 refine⟨some ⟨w.heap.size,0,none⟩,1,by rw [dr_one];rfl,by rw [dr_one];simp,?_⟩;rw [dr_one];exact cl_new w [i64n 1] 2
theorem ris1_iff (n:Nat):n=1↔(dr n).length=1∧(dr n).getD 0 0=1:=by
 constructor
 ·rintro rfl;rw [dr_one];simp
 ·rintro⟨h1,h2⟩
  have e:=num_dr n
  match h:dr n,h1,h2 with
  | [d],_,h2=>rw [h] at e;simp at h2 e;omega
theorem is1_r (va:Value) (n:Nat) (b:Bool) (hb:decide (n=1)=b) (w:World) (ha:Wr w va n):Calls Tryz.prog 75 #[va] w fun e w'=>e=.returned (.bool b)∧w=w':=by
 obtain⟨A,ca,rfl,hca,hA⟩:=ha;have hi:=ris1_iff n
 by_cases hl:(dr n).length=1
 ·obtain⟨ba,oa,rfl,hc⟩:=hA.i (by omega)
  have h0:w.cell? ⟨ba,oa,none⟩=some (.int .i64 (((dr n).getD 0 0:Nat):Int)):=by have h1:=hc 0 (by omega);rwa [Nat.add_zero] at h1
  clear hc hA
  have Hi:Hid (decide ((dr n).getD 0 0=1)=b):=by
   rw [←hb];show decide _=decide _;simp only [hi,hl,true_and]
  clear hi;generalize (dr n).getD 0 0=x at *;have hlt:((((dr n).length:Nat):Int) == 1)=true:=by simp;omega
  have hp:(0:Int)<((dr n).length:Nat):=by omega
  have hp':0<(dr n).length:=by omega
  generalize (dr n).length=k at *
  by_cases hx:x=1
  ·have ht:((x:Int) == 1)=true:=by simp;omega
   have Hb:Hid (b=true):=by have:=Hi.out;rw [←this];exact decide_eq_true hx
   clear hx hb hl
   go_enter Tryz.func75,Tryz.ntmps75
   go_wp2
   go_ret;rw [Hb.out]
   exact⟨rfl,rfl⟩
  ·have ht:((x:Int) == 1)=false:=by simp;omega
   have Hb:Hid (b=false):=by have:=Hi.out;rw [←this];exact decide_eq_false hx
   clear hx hb hl
   go_enter Tryz.func75,Tryz.ntmps75
   go_wp2
   go_ret;rw [Hb.out]
   exact⟨rfl,rfl⟩
 ·have hlt:((((dr n).length:Nat):Int) == 1)=false:=by simp;omega
  have Hb:Hid (b=false):=by rw [←hb];exact decide_eq_false (fun h=>hl (hi.1 h).1)
  clear hl hb hi;generalize (dr n).length=k at *
  go_enter Tryz.func75,Tryz.ntmps75
  go_wp2
  go_ret;rw [Hb.out]
  exact⟨rfl,rfl⟩
def sgnB (b:Bool):Int:=if b=true then -1 else 1
theorem minus_no {c:UInt8} {l:List UInt8} (h:c≠45):minusB (c :: l)=false∧restB (c :: l)=c :: l:=by
 have hne:¬(45:UInt8)=c:=fun e=>h e.symm;unfold minusB restB Lib.trimPrefix Lib.hasPrefix
 simp [List.isPrefixOf,hne]
theorem minus_yes (l:List UInt8):minusB (45 :: l)=true∧restB (45 :: l)=l:=by
 unfold minusB restB Lib.trimPrefix Lib.hasPrefix
 simp [List.isPrefixOf]
theorem signed_r (l:List UInt8) (hs:l.length≤9223372036854775807) (w:World):Calls Tryz.prog 69 #[.string ⟨l.toArray⟩] w fun e w'=>e=.returned (.tuple #[.string ⟨(restB l).toArray⟩,.int .i64 (sgnB (minusB l))])∧w'=w:=by
 rcases l with _|⟨c,l⟩
 ·have h1:minusB []=false:=rfl
  have h2:restB []=[]:=rfl;rw [h1,h2]
  go_enter Tryz.func69,Tryz.ntmps69
  go_wp2_with fail;refine bodyPost_ret (v:=.tuple #[.string ⟨#[]⟩,.int .i64 1]) (by simp [results,Tryz.f69]) rfl ?_
  exact⟨rfl,rfl⟩
 ·have hsz:(⟨(c :: l).toArray⟩:ByteArray).size=l.length+1:=by simp [ByteArray.size]
  have hz1:0<(⟨(c :: l).toArray⟩:ByteArray).size:=by rw [hsz];omega
  have hge:(⟨(c :: l).toArray⟩:ByteArray)[0]'hz1=c:=by rfl
  have hp:(0:Int)<((l.length+1:Nat):Int):=by omega
  have hx:(⟨(c :: l).toArray⟩:ByteArray).extract 1 (l.length+1)=⟨l.toArray⟩:=by apply ByteArray.ext;simp
  by_cases h:c=45
  ·subst h
   have ht:((((⟨(45 :: l).toArray⟩:ByteArray)[0]'hz1).toNat:Int) == 45)=true:=by rw [hge];rfl
   have HM:=ZZ (minus_yes l);clear hge
   go_enter Tryz.func69,Tryz.ntmps69
   go_wp2_with fail;refine bodyPost_ret (v:=.tuple #[.string ⟨l.toArray⟩,.int .i64 (-1)]) (by simp [results,Tryz.f69]) rfl ?_
   exact⟨by rw [HM.out.1,HM.out.2];rfl,rfl⟩
  ·have ht:((((⟨(c :: l).toArray⟩:ByteArray)[0]'hz1).toNat:Int) == 45)=false:=by
    rw [hge,beq_eq_false_iff_ne];intro e
    apply h
    apply UInt8.toNat_inj.1
    have e45:(45:UInt8).toNat=45:=rfl;omega
   have HM:=ZZ (minus_no (l:=l) h);clear hge h
   go_enter Tryz.func69,Tryz.ntmps69
   go_wp2_with fail;refine bodyPost_ret (v:=.tuple #[.string ⟨(c :: l).toArray⟩,.int .i64 1]) (by simp [results,Tryz.f69]) rfl ?_
   exact⟨by rw [HM.out.1,HM.out.2];rfl,rfl⟩
end Go.Proofs.YtaaoleakkaloeaaGreatDoor
set_option linter.unusedVariables false
set_option maxRecDepth 100000
set_option maxHeartbeats 64000000
namespace Go.Proofs.YtaaoleakkaloeaaGreatDoor
open Go.RowKit
theorem byte_eq (a c:UInt8):((((a.toNat:Nat):Int) == ((c.toNat:Nat):Int))=true↔a=c):=by
 rw [beq_iff_eq]
 constructor
 ·intro e;apply UInt8.toNat_inj.1;omega
 ·rintro rfl;rfl
theorem split_r (l:List UInt8) (c:UInt8) (hs:l.length≤9223372036854775807) (w:World):Calls Tryz.prog 70 #[.string ⟨l.toArray⟩,.int .u8 (c.toNat:Int)] w fun e w'=>e=.returned (.tuple #[.string ⟨(cutB c l).1.toArray⟩,.string ⟨(cutB c l).2.1.toArray⟩,.bool (cutB c l).2.2])∧∃q,w'=w.drewN q:=by
 have hsz:(⟨l.toArray⟩:ByteArray).size=l.length:=by simp [ByteArray.size]
 go_enter Tryz.func70,Tryz.ntmps70
 go_wp2_with fail
 go_loopg [7] (l.length) (fun k i wr=>∃t:Nat,t+k=l.length∧i=.int .i64 (t:Int)∧Hid (c ∉ l.take t)∧wr=w)
 case atStart=>exact⟨0,by omega,rfl,ZZ (by simp),rfl⟩
 case round=>
  obtain⟨t,ht,rfl,HN,rfl⟩:=hrel
  rcases Nat.eq_zero_or_pos gk with hz|hz
  ·subst hz
   obtain rfl:t=l.length:=by omega
   have HNO:=ZZ (show cutB c l=(l,[],false) from cutB_no l c (by have:=HN.out;rwa [List.take_length] at this));go_wp2_with fail;refine bodyPost_ret (v:=.tuple #[.string ⟨l.toArray⟩,.string ⟨#[]⟩,.bool false]) (by simp [results,Tryz.f70]) rfl ?_;exact⟨by rw [HNO.out],0,rfl⟩
  ·have hlt:(t:Int)<(l.length:Int):=by omega
   have htl:t<l.length:=by omega
   have hz1:t<(⟨l.toArray⟩:ByteArray).size:=by rw [hsz];exact htl
   have hge:(⟨l.toArray⟩:ByteArray)[t]'hz1=(l[t]'htl):=by rfl
   have HT:=ZZ ht;have HZ0:=ZZ hz;have HTL:=ZZ htl
   by_cases hb:(l[t]'htl)=c
   ·have ht1:((((⟨l.toArray⟩:ByteArray)[t]'hz1).toNat:Int) == (c.toNat:Int))=true:=by rw [hge];exact(byte_eq _ _).2 hb
    have HY:=ZZ (show cutB c l=(l.take t,l.drop (t+1),true) by
     have h1:l=l.take t ++ c :: l.drop (t+1):=by
      have h0:l=l.take t ++ (l[t]'htl) :: l.drop (t+1):=by rw [←List.drop_eq_getElem_cons htl,List.take_append_drop]
      have h3:l.take t ++ (l[t]'htl) :: l.drop (t+1)=l.take t ++ c :: l.drop (t+1):=by rw [show l[t]'htl=c from hb]
      exact h0.trans h3
     have h2:=cutB_yes (l.take t) (l.drop (t+1)) c HN.out;rw [←h1] at h2;exact h2)
    have hx1:(⟨l.toArray⟩:ByteArray).extract 0 t=⟨(l.take t).toArray⟩:=by apply ByteArray.ext;simp
    have hx2:(⟨l.toArray⟩:ByteArray).extract (t+1) l.length=⟨(l.drop (t+1)).toArray⟩:=by apply ByteArray.ext;simp;exact List.take_of_length_le (by simp)
    have hw:IntKind.i64.wrap ((t:Int)+1)=((t+1:Nat):Int):=(IntWalk.i64_in _ (by omega)).trans (by omega);have hb1:(t:Int)≤(l.length:Int):=by omega
    have hb2:((t+1:Nat):Int)≤(l.length:Int):=by omega
    clear hb hge;go_wp2_with fail
    go_quiet (fail)
    go_wp2_with fail;refine bodyPost_ret (v:=.tuple #[.string ⟨(l.take t).toArray⟩,.string ⟨(l.drop (t+1)).toArray⟩,.bool true]) (by simp [results,Tryz.f70]) rfl ?_
    exact⟨by rw [HY.out],_,rfl⟩
   ·have ht1:((((⟨l.toArray⟩:ByteArray)[t]'hz1).toNat:Int) == (c.toNat:Int))=false:=by
     rw [hge]
     cases h:((((l[t]'htl).toNat:Nat):Int) == ((c.toNat:Nat):Int)) with
     | false=>rfl
     | true=>exact absurd ((byte_eq _ _).1 h) hb
    have HB:=ZZ hb;clear hb hge;have hw:IntKind.i64.wrap ((t:Int)+1)=((t+1:Nat):Int):=(IntWalk.i64_in _ (by omega)).trans (by omega);go_wp2_with fail
    go_roundg (gk - 1)
    case measure=>have:=HZ0.out;omega
    case rel=>
     refine⟨t+1,by have:=HT.out;have:=HZ0.out;omega,by first|rfl|simp,ZZ ?_,rfl⟩;rw [List.take_succ_eq_append_getElem HTL.out,List.mem_append,List.mem_singleton];rintro(h|h)
     ·exact HN.out h
     ·exact HB.out h.symm
theorem all_take {l:List UInt8} {t:Nat} (h:t<l.length) (ha:(l.take t).all isDig=true) (hd:isDig (l[t]'h)=true):(l.take (t+1)).all isDig=true:=by
 rw [List.take_succ_eq_append_getElem h,List.all_append,ha]
 simp [hd]
theorem digits_r (l:List UInt8) (hs:l.length≤9223372036854775807) (w:World):Calls Tryz.prog 71 #[.string ⟨l.toArray⟩] w fun e w'=>e=.returned (.bool (digB l))∧w'=w:=by
 have hsz:(⟨l.toArray⟩:ByteArray).size=l.length:=by simp [ByteArray.size]
 go_enter Tryz.func71,Tryz.ntmps71
 go_wp2_with fail
 go_loopg [3] (l.length) (fun k i wr=>∃t:Nat,t+k=l.length∧i=.int .i64 (t:Int)∧Hid ((l.take t).all isDig=true)∧wr=w)
 case atStart=>exact⟨0,by omega,rfl,ZZ (by simp),rfl⟩
 case round=>
  obtain⟨t,ht,rfl,HN,rfl⟩:=hrel
  rcases Nat.eq_zero_or_pos gk with hz|hz
  ·subst hz
   obtain rfl:t=l.length:=by omega
   have hall:=HN.out;rw [List.take_length] at hall
   have HD:=ZZ (show digB l=decide (0<l.length) by
    unfold digB;rw [hall,Bool.and_true]
    cases l <;> simp)
   clear hall
   by_cases h0:0<l.length
   ·have HD2:=ZZ (show digB l=true by rw [HD.out,decide_eq_true h0])
    have h3:decide ((0:Int)<(l.length:Int))=true:=decide_eq_true (by omega);have h2:decide (0<l.length)=true:=decide_eq_true h0;go_wp2_with fail;go_ret;exact⟨by rw [HD2.out];rfl,rfl⟩
   ·have h1:l.length=0:=by omega
    have HD2:=ZZ (show digB l=false by rw [HD.out,decide_eq_false h0]);have h2:decide (0<l.length)=false:=decide_eq_false h0;have h3:decide ((0:Int)<(l.length:Int))=false:=decide_eq_false (by omega);go_wp2_with fail;go_ret;exact⟨by rw [HD2.out];rfl,rfl⟩
  ·have hlt:(t:Int)<(l.length:Int):=by omega
   have htl:t<l.length:=by omega
   have hz1:t<(⟨l.toArray⟩:ByteArray).size:=by rw [hsz];exact htl
   have hge:(⟨l.toArray⟩:ByteArray)[t]'hz1=(l[t]'htl):=by rfl
   have HT:=ZZ ht;have HZ0:=ZZ hz;have HTL:=ZZ htl;have hw:IntKind.i64.wrap ((t:Int)+1)=((t+1:Nat):Int):=(IntWalk.i64_in _ (by omega)).trans (by omega);obtain⟨x,hx⟩:∃x:Nat,x=((l[t]'htl)).toNat:=⟨_,rfl⟩;have hxe:((⟨l.toArray⟩:ByteArray)[t]'hz1).toNat=x:=by rw [hge,hx]
   by_cases h1:x<48
   ·have ht1:decide ((((⟨l.toArray⟩:ByteArray)[t]'hz1).toNat:Int)<48)=true:=by rw [hxe];simp;omega
    have ht2:decide (((⟨l.toArray⟩:ByteArray)[t]'hz1).toNat<48)=true:=by rw [hxe];simp;omega
    have HNO:=ZZ (show digB l=false by
     unfold digB
     rw [show l.all isDig=false from by
      rw [List.all_eq_false];exact⟨(l[t]'htl),List.getElem_mem _,by cases hq:isDig (l[t]'htl) with
       | false=>exact Bool.false_ne_true
       | true=>exact absurd hq (by rw [isDig_iff,←hx];omega)⟩,Bool.and_false])
    clear hge hxe hx h1;go_wp2_with fail;go_ret;exact⟨by rw [HNO.out];rfl,rfl⟩
   ·have ht1:decide ((((⟨l.toArray⟩:ByteArray)[t]'hz1).toNat:Int)<48)=false:=by rw [hxe];simp;omega
    have ht2:decide (((⟨l.toArray⟩:ByteArray)[t]'hz1).toNat<48)=false:=by rw [hxe];simp;omega
    by_cases h2:57<x
    ·have ht3:decide ((57:Int)<(((⟨l.toArray⟩:ByteArray)[t]'hz1).toNat:Int))=true:=by rw [hxe];simp;omega
     have ht4:decide (57<((⟨l.toArray⟩:ByteArray)[t]'hz1).toNat)=true:=by rw [hxe];simp;omega
     have HNO:=ZZ (show digB l=false by
      unfold digB
      rw [show l.all isDig=false from by
       rw [List.all_eq_false];exact⟨(l[t]'htl),List.getElem_mem _,by cases hq:isDig (l[t]'htl) with
       | false=>exact Bool.false_ne_true
       | true=>exact absurd hq (by rw [isDig_iff,←hx];omega)⟩,Bool.and_false])
     clear hge hxe hx h1 h2;go_wp2_with fail;go_ret;exact⟨by rw [HNO.out];rfl,rfl⟩
    ·have ht3:decide ((57:Int)<(((⟨l.toArray⟩:ByteArray)[t]'hz1).toNat:Int))=false:=by rw [hxe];simp;omega
     have ht4:decide (57<((⟨l.toArray⟩:ByteArray)[t]'hz1).toNat)=false:=by rw [hxe];simp;omega
     have HAT:=ZZ (all_take HTL.out HN.out (by rw [isDig_iff,←hx];omega));clear hge hxe hx h1 h2;go_wp2_with fail
     go_roundg (gk - 1)
     case measure=>have:=HZ0.out;omega
     case rel=>exact⟨t+1,by have:=HT.out;have:=HZ0.out;omega,by first|rfl|simp,HAT,rfl⟩
end Go.Proofs.YtaaoleakkaloeaaGreatDoor
