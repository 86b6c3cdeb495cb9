/- Numbers: powers. Printed by gen_nl.py. Regions walked by hand; the cells of two numbers in a row. Numbers: rounding to significant bits. Printed by gen_nj.py. Texts: engineering texts, read. Texts: engineering texts, shown. Small laws: the error of Parse, rows of three cells. The laws' helper Pair: a text read by the program and by the reference. Printed by gen_pr.py. Numbers: powers with a negative exponent; powers in all. Printed by gen_no.py. Spans: their cells; in order. The laws' helper: two numbers are equal. Printed by gen_vc.py. The reference's numbers: shifts, logarithms, rounding. Printed by gen_ru.py. The reference's numbers: powers, powers of ten. Plain laws of spans: results of numbers are in the results of their spans. Plain laws of spans: what the reference computes of the ends is what the program computes. The reference's numbers: where their digits lie; slices of them in memory. -/
import Derived.Test.YtjamgccgoapbeaaGreatDoorGYa
import Derived.Deep.LoopGhost
import Derived.Test.YtjamgccgoapbeaaGreatDoorGRm
import Derived.Test.YtjamgccgoapbeaaGreatDoorGWj
import Derived.Deep.DeepCutAuto
import Derived.Deep.RegionHeld3
import Derived.Test.YtjamgccgoapbeaaGreatDoorGTg
import Derived.Test.YtjamgccgoapbeaaGreatDoorGYd
import Derived.Deep.MidRow
import Derived.Test.YtjamgccgoapbeaaGreatDoorGTe
import Derived.Test.YtjamgccgoapbeaaGreatDoorGNg
import Derived.Deep.QuietTactic
import Derived.BigQuiet
import Derived.Test.YtjamgccgoapbeaaGreatDoorGRo
import Derived.Test.YtjamgccgoapbeaaGreatDoorGYh
import Derived.Test.YtjamgccgoapbeaaGreatDoorGZa
set_option linter.unusedVariables false
set_option maxRecDepth 100000
set_option maxHeartbeats 64000000
namespace Go.Proofs.YtjamgccgoapbeaaGreatDoor
open Go.RowKit
end Go.Proofs.YtjamgccgoapbeaaGreatDoor
set_option linter.unusedVariables false
set_option maxRecDepth 100000
set_option maxHeartbeats 64000000
namespace Go.Proofs.YtjamgccgoapbeaaGreatDoor
open Go.RowKit
section
variable {P:Program} {md:Region.Mode} {ops:Array Oper} {Q:Exit→Act→World→Prop} {S:World→Prop}
end
theorem setupM (w:World) (x0 x1 x2 y0 y1 y2:Value):(∀W,Ext ((w.alloc (.cells #[x0,x1,x2] 35)).alloc (.cells #[y0,y1,y2] 62)) W→W.cell? ⟨w.heap.size,0,none⟩=some x0∧W.cell? ⟨w.heap.size,1,none⟩=some x1∧W.cell? ⟨w.heap.size,2,none⟩=some x2∧W.cell? ⟨w.heap.size+1,0,none⟩=some y0∧W.cell? ⟨w.heap.size+1,1,none⟩=some y1∧W.cell? ⟨w.heap.size+1,2,none⟩=some y2)∧Ext w ((w.alloc (.cells #[x0,x1,x2] 35)).alloc (.cells #[y0,y1,y2] 62)):=by
 have z0:(w.alloc (.cells #[x0,x1,x2] 35)).heap.size=w.heap.size+1:=by simp
 have e0:Ext w (w.alloc (.cells #[x0,x1,x2] 35)):=ab _ _;generalize hw0:w.alloc (.cells #[x0,x1,x2] 35)=w0 at *;have e1:Ext w0 (w0.alloc (.cells #[y0,y1,y2] 62)):=ab _ _;refine⟨fun W h=>?_,am e0 e1⟩;have r0:=row3 (hw0 ▸ (am e1 h):Ext (w.alloc (.cells #[x0,x1,x2] 35)) W);have r1:=rowR h;rw [z0] at r1;obtain⟨a,b,c,-⟩:=ak r0;obtain⟨a',b',c',-⟩:=ak r1;exact⟨a,b,c,a',b',c'⟩
end Go.Proofs.YtjamgccgoapbeaaGreatDoor
set_option linter.unusedVariables false
set_option maxRecDepth 100000
set_option maxHeartbeats 64000000
namespace Go.Proofs.YtjamgccgoapbeaaGreatDoor
open Go.RowKit
def stepQ (x:Rat) (bits:Int):Int:=logQ x - min (max bits 1) 2000+1
def az (x:Rat) (bits:Int) (away:Bool):Rat:=if x=0 then 0 else shQ (wholeQ (shQ x (-(stepQ x bits))) away) (stepQ x bits)
theorem stepQ_bound {M:Nat} {x:Rat} (h:Bq M x) (bits:Int):(stepQ x bits).natAbs≤M+2001:=by
 have:=logQ_bound h
 unfold stepQ;omega
theorem Bq.round {M:Nat} {x:Rat} {bits:Int} {away:Bool} (h:Bq M x) (hM:0<M):Bq (3*M+4003) (az x bits away):=by
 unfold az
 split
 ·exact bq_zero _ (by omega)
 ·have hs:=stepQ_bound h bits
  have h1:Bq (M+(M+2001)) (shQ x (-(stepQ x bits))):=(Bq.sh h).mono (by rw [Int.natAbs_neg];omega);have h2:=(Bq.wh h1:Bq _ (wholeQ (shQ x (-(stepQ x bits))) away));exact(Bq.sh h2).mono (by omega)
end Go.Proofs.YtjamgccgoapbeaaGreatDoor
set_option linter.unusedVariables false
set_option maxRecDepth 100000
set_option maxHeartbeats 64000000
namespace Go.Proofs.YtjamgccgoapbeaaGreatDoor
open Go.RowKit
def pfxs:List (List UInt8 × Int):=[([102],-15),([112],-12),([110],-9),([117],-6),([109],-3),([],0),([107],3),([77],6),([71],9),([84],12)]
def Pfx (w:World):Prop:=∀i,i<20→w.cell? ⟨0,i,none⟩=((pfxs.map fun p=>[Value.string ⟨p.1.toArray⟩,.int .i64 p.2]).flatten)[i]?
theorem Pfx.mono {w w':World} (h:Pfx w) (k:Ext w w'):Pfx w':=fun i hi=>by
 have h1:=h i hi;rw [←h1]
 have hl:i<((pfxs.map fun p=>[Value.string ⟨p.1.toArray⟩,.int .i64 p.2]).flatten).length:=by
  have:((pfxs.map fun p=>[Value.string ⟨p.1.toArray⟩,.int .i64 p.2]).flatten).length=20:=rfl
  omega
 rw [List.getElem?_eq_getElem hl] at h1;exact(ar k h1).trans h1.symm
theorem Pfx.cells {w:World} (h:Pfx w):w.cell? ⟨0,0,none⟩=some (.string ⟨#[102]⟩)∧w.cell? ⟨0,1,none⟩=some (.int .i64 (-15))∧w.cell? ⟨0,2,none⟩=some (.string ⟨#[112]⟩)∧w.cell? ⟨0,3,none⟩=some (.int .i64 (-12))∧w.cell? ⟨0,4,none⟩=some (.string ⟨#[110]⟩)∧w.cell? ⟨0,5,none⟩=some (.int .i64 (-9))∧w.cell? ⟨0,6,none⟩=some (.string ⟨#[117]⟩)∧w.cell? ⟨0,7,none⟩=some (.int .i64 (-6))∧w.cell? ⟨0,8,none⟩=some (.string ⟨#[109]⟩)∧w.cell? ⟨0,9,none⟩=some (.int .i64 (-3))∧w.cell? ⟨0,10,none⟩=some (.string ⟨#[]⟩)∧w.cell? ⟨0,11,none⟩=some (.int .i64 0)∧w.cell? ⟨0,12,none⟩=some (.string ⟨#[107]⟩)∧w.cell? ⟨0,13,none⟩=some (.int .i64 3)∧w.cell? ⟨0,14,none⟩=some (.string ⟨#[77]⟩)∧w.cell? ⟨0,15,none⟩=some (.int .i64 6)∧w.cell? ⟨0,16,none⟩=some (.string ⟨#[71]⟩)∧w.cell? ⟨0,17,none⟩=some (.int .i64 9)∧w.cell? ⟨0,18,none⟩=some (.string ⟨#[84]⟩)∧w.cell? ⟨0,19,none⟩=some (.int .i64 12):=
 ⟨h 0 (by omega),h 1 (by omega),h 2 (by omega),h 3 (by omega),h 4 (by omega),h 5 (by omega),h 6 (by omega),h 7 (by omega),h 8 (by omega),h 9 (by omega),h 10 (by omega),h 11 (by omega),h 12 (by omega),h 13 (by omega),h 14 (by omega),h 15 (by omega),h 16 (by omega),h 17 (by omega),h 18 (by omega),h 19 (by omega)⟩
end Go.Proofs.YtjamgccgoapbeaaGreatDoor
set_option linter.unusedVariables false
set_option maxRecDepth 100000
set_option maxHeartbeats 64000000
namespace Go.Proofs.YtjamgccgoapbeaaGreatDoor
open Go.RowKit
theorem aC (w:World) (o:Obj):(w.alloc o).heap.size=w.heap.size+1:=by simp
theorem Nm.len {w:World} {b:Bool} {A B:Option Addr} {k c l d:Nat} {q:Rat} (h:Nm w (.agg #[.bool b,.slice A k c,.slice B l d]) q):(l=0↔q.den=1)∧Wd w (.slice A k c) q.num.natAbs:=by
 obtain⟨A',k',c',B',l',d',e,h1,h2,-,h4⟩:=h.form
 simp only [Value.agg.injEq,Array.mk.injEq,List.cons.injEq,Value.bool.injEq,Value.slice.injEq,and_true] at e
 obtain⟨-,⟨rfl,rfl,rfl⟩,⟨rfl,rfl,rfl⟩⟩:=e;exact⟨h4,h1⟩
end Go.Proofs.YtjamgccgoapbeaaGreatDoor
set_option linter.unusedVariables false
set_option maxRecDepth 100000
set_option maxHeartbeats 64000000
namespace Go.Proofs.YtjamgccgoapbeaaGreatDoor
open Go.RowKit
end Go.Proofs.YtjamgccgoapbeaaGreatDoor
set_option linter.unusedVariables false
set_option maxRecDepth 100000
set_option maxHeartbeats 64000000
namespace Go.Proofs.YtjamgccgoapbeaaGreatDoor
open Go.RowKit
end Go.Proofs.YtjamgccgoapbeaaGreatDoor
set_option linter.unusedVariables false
set_option maxRecDepth 100000
set_option maxHeartbeats 64000000
namespace Go.Proofs.YtjamgccgoapbeaaGreatDoor
open Go.RowKit
end Go.Proofs.YtjamgccgoapbeaaGreatDoor
set_option linter.unusedVariables false
set_option maxRecDepth 100000
set_option maxHeartbeats 64000000
namespace Go.Proofs.YtjamgccgoapbeaaGreatDoor
open Go.RowKit
def Sp (w:World) (v:Value) (lo hi:Rat):Prop:=∃x0 x1 x2 y0 y1 y2,v=.agg #[x0,x1,x2,y0,y1,y2]∧Nm w (.agg #[x0,x1,x2]) lo∧Nm w (.agg #[y0,y1,y2]) hi
theorem Sp.mono {w w':World} {v:Value} {lo hi:Rat} (h:Sp w v lo hi) (k:Ext w w'):Sp w' v lo hi:=by
 obtain⟨x0,x1,x2,y0,y1,y2,e,h1,h2⟩:=h;exact⟨x0,x1,x2,y0,y1,y2,e,h1.mono k,h2.mono k⟩
theorem Sp.form {w:World} {v:Value} {lo hi:Rat} (h:Sp w v lo hi):∃b1 A k ca B l cb b2 C m cc D n cd,v=.agg #[.bool b1,.slice A k ca,.slice B l cb,.bool b2,.slice C m cc,.slice D n cd]∧Nm w (.agg #[.bool b1,.slice A k ca,.slice B l cb]) lo∧Nm w (.agg #[.bool b2,.slice C m cc,.slice D n cd]) hi:=by
 obtain⟨x0,x1,x2,y0,y1,y2,rfl,h1,h2⟩:=h;obtain⟨b1,A,k,ca,B,l,cb,e1⟩:=h1.form2;obtain⟨b2,C,m,cc,D,n,cd,e2⟩:=h2.form2
 simp only [Value.agg.injEq,Array.mk.injEq,List.cons.injEq,and_true] at e1 e2
 obtain⟨rfl,rfl,rfl⟩:=e1;obtain⟨rfl,rfl,rfl⟩:=e2;exact⟨b1,A,k,ca,B,l,cb,b2,C,m,cc,D,n,cd,rfl,h1,h2⟩
theorem row6 {w W:World} {a b c d e f:Value} (h:Ext (w.alloc (.cells #[a,b,c,d,e,f] 37)) W):W.heap[w.heap.size]?=some (.cells #[a,b,c,d,e,f] 37 (0,0)):=
 (h.block _ (by simp)).trans (heap_alloc_new w _)
theorem ai {W:World} {g:Nat} {a b c d e f:Value} {T:TypeId} (h:W.heap[g]?=some (.cells #[a,b,c,d,e,f] T (0,0))):W.cell? ⟨g,0,none⟩=some a∧W.cell? ⟨g,1,none⟩=some b∧W.cell? ⟨g,2,none⟩=some c∧W.cell? ⟨g,3,none⟩=some d∧W.cell? ⟨g,4,none⟩=some e∧W.cell? ⟨g,5,none⟩=some f∧W.frozen? ⟨g,0,none⟩=false∧W.frozen? ⟨g,1,none⟩=false∧W.frozen? ⟨g,2,none⟩=false∧W.frozen? ⟨g,3,none⟩=false∧W.frozen? ⟨g,4,none⟩=false∧W.frozen? ⟨g,5,none⟩=false:=by
 refine⟨?_,?_,?_,?_,?_,?_,?_,?_,?_,?_,?_,?_⟩ <;> simp [World.cell?,World.frozen?,h]
def put6 (W:World) (g:Nat) (a b c d e f:Value):World:=(((((W.setCell ⟨g,0,none⟩ a).setCell ⟨g,1,none⟩ b).setCell ⟨g,2,none⟩ c).setCell ⟨g,3,none⟩ d).setCell ⟨g,4,none⟩ e).setCell ⟨g,5,none⟩ f
theorem af {w W:World} {g:Nat} (h:Ext w W) (hg:w.heap.size≤g) (a b c d e f:Value):Ext w (put6 W g a b c d e f):=
 ((((((h.setCell hg _).setCell hg _).setCell hg _).setCell hg _).setCell hg _).setCell hg _)
theorem ah {W:World} {g k:Nat} {o:Obj} (h:W.heap[k]?=some o) (hne:k≠g) (a b c d e f:Value):(put6 W g a b c d e f).heap[k]?=some o:=by
 unfold put6;rw [Below.heap_setCell _ _ _ _ hne,Below.heap_setCell _ _ _ _ hne,Below.heap_setCell _ _ _ _ hne,Below.heap_setCell _ _ _ _ hne,Below.heap_setCell _ _ _ _ hne,Below.heap_setCell _ _ _ _ hne];exact h
theorem ag {W:World} {g:Nat} {a0 b0 c0 d0 e0 f0:Value} {T:TypeId} (h:W.heap[g]?=some (.cells #[a0,b0,c0,d0,e0,f0] T (0,0))) (a b c d e f:Value):(put6 W g a b c d e f).heap[g]?=some (.cells #[a,b,c,d,e,f] T (0,0)):=by
 unfold put6
 simp [World.setCell,Array.getElem?_modify,h]
theorem Wd.put6 {W:World} {v:Value} {q g:Nat} {b1 b2:Bool} {A B C D:Option Addr} {k ca l cb m cc n cd:Nat} {T:TypeId} (h:Wd W v q) (hg:W.heap[g]?=some (.cells #[.bool b1,.slice A k ca,.slice B l cb,.bool b2,.slice C m cc,.slice D n cd] T (0,0))) (a b c d e f:Value):Wd (put6 W g a b c d e f) v q:=by
 obtain⟨A',cx,e',hc,hcl⟩:=h;refine⟨A',cx,e',hc,?_⟩
 rcases Nat.eq_zero_or_pos (dg q).length with h0|h0
 ·left;rw [List.length_eq_zero_iff.1 h0];rfl
 ·obtain⟨bl,o,hA,hce⟩:=hcl.at_ (by simpa using h0)
  right
  refine⟨bl,o,hA,fun j hj=>?_⟩;have hj':j<(dg q).length:=by simpa using hj
  have h1:=hce j hj
  have hne:bl≠g:=by
   intro hb;subst hb;rw [getD_map_u64 _ _ hj'] at h1
   simp only [World.cell?,hg] at h1
   rcases Nat.lt_or_ge (o+j) 6 with h3|h3
   ·rcases(show o+j=0∨o+j=1∨o+j=2∨o+j=3∨o+j=4∨o+j=5 by omega) with e|e|e|e|e|e <;> rw [e] at h1 <;> simp at h1
   ·rw [Array.getElem?_eq_none (by simpa using h3)] at h1
    simp at h1
  rw [←h1]
  apply World.cell?_of_block
  unfold Go.Proofs.YtjamgccgoapbeaaGreatDoor.put6;rw [Below.heap_setCell _ _ _ _ hne,Below.heap_setCell _ _ _ _ hne,Below.heap_setCell _ _ _ _ hne,Below.heap_setCell _ _ _ _ hne,Below.heap_setCell _ _ _ _ hne,Below.heap_setCell _ _ _ _ hne]
theorem Nm.put6 {W:World} {v:Value} {q:Rat} {g:Nat} {b1 b2:Bool} {A B C D:Option Addr} {k ca l cb m cc n cd:Nat} {T:TypeId} (h:Nm W v q) (hg:W.heap[g]?=some (.cells #[.bool b1,.slice A k ca,.slice B l cb,.bool b2,.slice C m cc,.slice D n cd] T (0,0))) (a b c d e f:Value):Nm (put6 W g a b c d e f) v q:=by
 obtain⟨vn,vd,e',h1,h2⟩:=h;exact⟨vn,vd,e',h1.put6 hg ..,h2.put6 hg ..⟩
def au (lo hi:Rat):Rat × Rat:=if hi<lo then (hi,lo) else (lo,hi)
theorem sorted_c (M:Nat) (hM:M≤1099511627776) (v:Value) (lo hi:Rat) (w:World) (h:Sp w v lo hi) (b1:Bq M lo) (b2:Bq M hi):Calls Tryz.prog 98 #[v] w fun e w'=>∃v',e=.returned v'∧Sp w' v' (au lo hi).1 (au lo hi).2∧Ext w w':=by
 obtain⟨c1,A,k,ca,B,l,cb,c2,C,m,cc,D,n,cd,rfl,h1,h2⟩:=h.form;have H1:=ZZ h1;have H2:=ZZ h2;have B1:=ZZ b1;have B2:=ZZ b2;have HM:=ZZ hM;clear h h1 h2 b1 b2 hM
 go_enter Tryz.func98,Tryz.ntmps98
 go_wp2_with fail;refine(cmp_q M HM.out _ _ _ _ _ (H1.out.mono (ext2 _ _ _)) (H2.out.mono (ext2 _ _ _)) B1.out B2.out).mono ?_
 rintro e w3 ⟨rfl,k3⟩;have hrb:=row6 (am (ab _ (.cells #[.bool false,.slice none 0 0,.slice none 0 0,.bool false,.slice none 0 0,.slice none 0 0] 37)) k3)
 have hrz:w3.heap[w.heap.size+1]?=some (.cells #[.bool false,.slice none 0 0,.slice none 0 0,.bool false,.slice none 0 0,.slice none 0 0] 37 (0,0)):=by
  have q:=row6 k3
  simpa using q
 obtain⟨x0,x1,x2,x3,x4,x5,-⟩:=ai hrb;obtain⟨z0,z1,z2,z3,z4,z5,f0,f1,f2,f3,f4,f5⟩:=ai hrz;have HRZ:=ZZ hrz;have KW:=ZZ (am (ext2 _ _ _) k3);clear hrb hrz k3;generalize hcv:cmpQ lo hi=cv at *;have HCV:=ZZ hcv;clear hcv
 rcases(show 0<cv∨cv≤0 by omega) with hc|hc
 ·have HLT:=ZZ (show hi<lo by
   have h1:=(cmpQ_pos lo hi).1;have h2:=cmpQ_one lo hi;rw [HCV.out] at h1 h2;exact h1 (by omega))
  go_wp2_with fail;refine bodyPost_ret (v:=.agg #[.bool c2,.slice C m cc,.slice D n cd,.bool c1,.slice A k ca,.slice B l cb]) (by simp [results,Tryz.f98];go_simp) rfl ?_
  refine⟨_,rfl,?_,af KW.out (Nat.le_succ _) _ _ _ _ _ _⟩;rw [show au lo hi=(hi,lo) from if_pos HLT.out];exact⟨_,_,_,_,_,_,rfl,(H2.out.mono KW.out).put6 HRZ.out _ _ _ _ _ _,(H1.out.mono KW.out).put6 HRZ.out _ _ _ _ _ _⟩
 ·have HLT:=ZZ (show ¬ hi<lo from fun h=>by
   have h1:=(cmpQ_pos lo hi).2 h;rw [HCV.out] at h1
   omega)
  go_wp2_with fail;refine bodyPost_ret (v:=.agg #[.bool c1,.slice A k ca,.slice B l cb,.bool c2,.slice C m cc,.slice D n cd]) (by simp [results,Tryz.f98];go_simp) rfl ?_
  refine⟨_,rfl,?_,af KW.out (Nat.le_succ _) _ _ _ _ _ _⟩;rw [show au lo hi=(lo,hi) from if_neg HLT.out];exact⟨_,_,_,_,_,_,rfl,(H1.out.mono KW.out).put6 HRZ.out _ _ _ _ _ _,(H2.out.mono KW.out).put6 HRZ.out _ _ _ _ _ _⟩
end Go.Proofs.YtjamgccgoapbeaaGreatDoor
set_option linter.unusedVariables false
set_option maxRecDepth 100000
set_option maxHeartbeats 64000000
namespace Go.Proofs.YtjamgccgoapbeaaGreatDoor
open Go.RowKit
def Tab (w:World):Prop:=Pfx w∧Tens w
theorem Tab.mono {w w':World} (h:Tab w) (k:Ext w w'):Tab w':=⟨h.1.mono k,h.2.mono k⟩
end Go.Proofs.YtjamgccgoapbeaaGreatDoor
set_option linter.unusedVariables false
set_option maxRecDepth 100000
set_option maxHeartbeats 64000000
namespace Go.Proofs.YtjamgccgoapbeaaGreatDoor
open Go.RowKit
end Go.Proofs.YtjamgccgoapbeaaGreatDoor
set_option linter.unusedVariables false
set_option maxRecDepth 100000
set_option maxHeartbeats 64000000
namespace Go.Proofs.YtjamgccgoapbeaaGreatDoor
open Go.RowKit
end Go.Proofs.YtjamgccgoapbeaaGreatDoor
set_option linter.unusedVariables false
set_option maxRecDepth 100000
set_option maxHeartbeats 64000000
namespace Go.Proofs.YtjamgccgoapbeaaGreatDoor
def joinQ (s t:Rat × Rat):Rat × Rat:=(aw s.1 t.1,ay s.2 t.2)
def mulS (a b c d:Rat):Rat × Rat:=joinQ (au (a*c) (a*d)) (au (b*c) (b*d))
end Go.Proofs.YtjamgccgoapbeaaGreatDoor
set_option linter.unusedVariables false
set_option maxRecDepth 100000
set_option maxHeartbeats 64000000
namespace Go.Proofs.YtjamgccgoapbeaaGreatDoor
open Go.RowKit
theorem ends_sort (a b:Rat):aw a b=(au a b).1∧ay a b=(au a b).2:=by
 unfold aw ay au
 by_cases h:b<a
 ·have h':¬ a<b:=by grind
  simp [h,h']
 ·by_cases h':a<b
  ·simp [h,h']
  ·have e:a=b:=by grind
   subst e;simp
def hullF (s:Rat × Rat) (l:List Rat):Rat × Rat:=l.foldl (fun s x=>(aw s.1 x,ay s.2 x)) s
theorem hullF_snoc (s:Rat × Rat) (l:List Rat) (x:Rat):hullF s (l ++ [x])=(aw (hullF s l).1 x,ay (hullF s l).2 x):=by
 unfold hullF;rw [List.foldl_append];rfl
theorem min_alt (a b:Rat):(aw a b≤a∧aw a b≤b)∧(aw a b=a∨aw a b=b):=by
 unfold aw;split <;> grind
theorem max_alt (a b:Rat):(a≤ay a b∧b≤ay a b)∧(ay a b=a∨ay a b=b):=by
 unfold ay;split <;> grind
theorem min_assoc (a b c:Rat):aw (aw a b) c=aw a (aw b c):=by
 have:=min_alt a b;have:=min_alt b c;have:=min_alt (aw a b) c;have:=min_alt a (aw b c);grind
theorem max_assoc (a b c:Rat):ay (ay a b) c=ay a (ay b c):=by
 have:=max_alt a b;have:=max_alt b c;have:=max_alt (ay a b) c;have:=max_alt a (ay b c);grind
theorem hull_join (a b c d:Rat):hullF (a,a) [b,c,d]=joinQ (au a b) (au c d):=by
 unfold joinQ;rw [←(ends_sort a b).1,←(ends_sort a b).2,←(ends_sort c d).1,←(ends_sort c d).2,←min_assoc,←max_assoc]
 rfl
theorem hull_mul (a b c d:Rat):hullF (a*c,a*c) [a*d,b*c,b*d]=mulS a b c d:=by
 unfold mulS;exact hull_join _ _ _ _
end Go.Proofs.YtjamgccgoapbeaaGreatDoor
set_option linter.unusedVariables false
set_option maxRecDepth 100000
set_option maxHeartbeats 64000000
namespace Go.Proofs.YtjamgccgoapbeaaGreatDoor
open Go.RowKit
theorem BlC.imp {C D:Nat→Prop} {v:Value} (h:BlC C v) (k:∀b,C b→D b):BlC D v:=fun a n c e h0=>k _ (h a n c e h0)
theorem BlN.imp {C D:Nat→Prop} {v:Value} (h:BlN C v) (k:∀b,C b→D b):BlN D v:=fun s A n c A' l d e=>⟨(h s A n c A' l d e).1.imp k,(h s A n c A' l d e).2.imp k⟩
theorem BlN.both {C D:Nat→Prop} {v:Value} (h:BlN C v) (h':BlN D v):BlN (fun b=>C b∧D b) v:=fun s A n c A' l d e=>
 ⟨fun a m c0 e0 h0=>⟨(h s A n c A' l d e).1 a m c0 e0 h0,(h' s A n c A' l d e).1 a m c0 e0 h0⟩,fun a m c0 e0 h0=>⟨(h s A n c A' l d e).2 a m c0 e0 h0,(h' s A n c A' l d e).2 a m c0 e0 h0⟩⟩
theorem FrN.bln {B:Nat} {v:Value} {C:Nat→Prop} (h:FrN B v) (hC:∀b,B≤b→C b):BlN C v:=fun s A n c A' l d e=>⟨(h s A n c A' l d e).1.blc hC,(h s A n c A' l d e).2.blc hC⟩
theorem Wr.keepB {W W':World} {v:Value} {n:Nat} {C:Nat→Prop} (h:Wr W v n) (hb:BlC C v) (hk:∀b,C b→W'.heap[b]?=W.heap[b]?):Wr W' v n:=by
 obtain⟨A,cc,e,hc,hcl⟩:=h;refine⟨A,cc,e,hc,?_⟩
 rcases hcl with h0|⟨b,o,hA,hce⟩
 ·exact .inl h0
 ·refine .inr ⟨b,o,hA,fun j hj=>?_⟩
  rw [←hce j hj];exact World.cell?_of_block (hk b (hb ⟨b,o,none⟩ _ cc (by rw [e,hA]) (by simp at hj;omega)))
theorem Wr.old {w:World} {v:Value} {n:Nat} (h:Wr w v n):BlC (·<w.heap.size) v:=by
 rintro a k c e h0;obtain⟨A,cc,e1,hc,hcl⟩:=h;rw [e1] at e
 injection e with ea ek ec
 rcases hcl with h1|⟨b,o,hA,hce⟩
 ·rw [←ek] at h0
  simp at h1
  rw [h1] at h0
  cases h0
 ·rw [hA] at ea
  injection ea with ea
  rw [←ea];have h2:=hce 0 (by simp;omega);exact World.block_lt_of_cell? w _ h2
theorem Nr.keepB {W W':World} {v:Value} {q:Rat} {C:Nat→Prop} (h:Nr W v q) (hb:BlN C v) (hk:∀b,C b→W'.heap[b]?=W.heap[b]?):Nr W' v q:=by
 obtain⟨s,vt,vb,e,hs,h1,h2⟩:=h;obtain⟨A,c,e1,-,-⟩:=id h1;obtain⟨A',c',e2,-,-⟩:=id h2;obtain⟨f1,f2⟩:=hb s A _ c A' _ c' (by rw [e,e1,e2]);exact⟨s,vt,vb,e,hs,h1.keepB (by rw [e1];exact f1) hk,h2.keepB (by rw [e2];exact f2) hk⟩
theorem Nr.old {w:World} {v:Value} {q:Rat} (h:Nr w v q):BlN (·<w.heap.size) v:=by
 obtain⟨s,vt,vb,e,hs,h1,h2⟩:=h;intro s1 A1 k1 c1 A2 l2 d2 e';rw [e] at e'
 simp only [Value.agg.injEq,Array.mk.injEq,List.cons.injEq] at e'
 obtain⟨-,rfl,rfl,-⟩:=e';exact⟨h1.old,h2.old⟩
def TriR (w:World) (b j:Nat) (q:Rat):Prop:=∃s A k ca B m cb,w.cell? ⟨b,j,none⟩=some (.int .i64 s)∧w.cell? ⟨b,j+1,none⟩=some (.slice A k ca)∧w.cell? ⟨b,j+2,none⟩=some (.slice B m cb)∧Nr w (.agg #[.int .i64 s,.slice A k ca,.slice B m cb]) q
theorem TriR.mono {w w':World} {b j:Nat} {q:Rat} (h:TriR w b j q) (k:Ext w w'):TriR w' b j q:=by
 obtain⟨s,A,m,ca,B,n,cb,h1,h2,h3,h4⟩:=h;exact⟨s,A,m,ca,B,n,cb,ar k h1,ar k h2,ar k h3,h4.mono k⟩
def PlR (w:World) (v:Value) (l:List Rat):Prop:=∃A cap,v=.slice A l.length cap∧l.length≤cap∧((A=none∧l=[])∨∃b o,A=some ⟨b,o,none⟩∧∀i q,l[i]?=some q→TriR w b (o+i*3) q)
theorem PlR.mono {w w':World} {v:Value} {l:List Rat} (h:PlR w v l) (k:Ext w w'):PlR w' v l:=by
 obtain⟨A,cap,h1,h2,h3⟩:=h;refine⟨A,cap,h1,h2,?_⟩
 rcases h3 with h3|⟨b,o,h4,h5⟩
 ·exact .inl h3
 ·exact .inr ⟨b,o,h4,fun i q hq=>(h5 i q hq).mono k⟩
theorem PlR.nil (w:World):PlR w (.slice none 0 0) []:=⟨none,0,rfl,Nat.le_refl _,.inl ⟨rfl,rfl⟩⟩
theorem PlR.form {w:World} {v:Value} {l:List Rat} (h:PlR w v l):∃A c,v=.slice A l.length c:=by
 obtain⟨A,c,e,-⟩:=h;exact⟨A,c,e⟩
theorem PlR.take {w:World} {A:Option Addr} {n cap:Nat} {l:List Rat} (h:PlR w (.slice A n cap) l) {k:Nat} (hk:k≤l.length):PlR w (.slice A k cap) (l.take k):=by
 obtain⟨A',cap',e,h2,h3⟩:=h
 injection e with e1 e2 e3
 subst e1 e2 e3;have hl:(l.take k).length=k:=by simp [hk]
 refine⟨A,cap,by rw [hl],by rw [hl];omega,?_⟩
 rcases h3 with ⟨h4,h5⟩|⟨b,o,h4,h5⟩
 ·exact .inl ⟨h4,by rw [h5];simp⟩
 ·refine .inr ⟨b,o,h4,fun i q hq=>h5 i q ?_⟩
  rw [List.getElem?_take] at hq
  split at hq
  ·exact hq
  ·cases hq
theorem plr_of_own {w:World} {B:Nat} {v:Value} {l:List Rat} {xs:List Value} {C:Value→Prop} (h:OwnG w B 62 3 C v l.length xs) (hx:∀i q,l[i]?=some q→∃s A k ca C m cb,xs[i*3]?=some (.int .i64 s)∧xs[i*3+1]?=some (.slice A k ca)∧xs[i*3+2]?=some (.slice C m cb)∧Nr w (.agg #[.int .i64 s,.slice A k ca,.slice C m cb]) q):PlR w v l:=by
 obtain⟨hlen,h2⟩:=h
 rcases h2 with ⟨rfl,h0⟩|⟨g,cap,cur,rfl,-,hg,hc,-,-,ht,-⟩
 ·rw [List.length_eq_zero_iff.1 h0];exact PlR.nil w
 ·refine⟨_,cap,rfl,hc,.inr ⟨g,0,rfl,fun i q hq=>?_⟩⟩
  obtain⟨s,A,k,ca,C,m,cb,x0,x1,x2,hn⟩:=hx i q hq
  have key:∀(j:Nat) (u:Value),xs[j]?=some u→w.cell? ⟨g,j,none⟩=some u:=fun j u hu=>by
   rw [cell_of_row w g j _ _ _ hg];rw [←ht,List.getElem?_take] at hu
   split at hu
   ·simpa using hu
   ·cases hu
  rw [Nat.zero_add];exact⟨s,A,k,ca,C,m,cb,key _ _ x0,key _ _ x1,key _ _ x2,hn⟩
end Go.Proofs.YtjamgccgoapbeaaGreatDoor
