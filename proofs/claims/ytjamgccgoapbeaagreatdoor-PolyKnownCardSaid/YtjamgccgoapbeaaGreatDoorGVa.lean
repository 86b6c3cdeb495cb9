/- Polynomials of the program: slices of numbers in memory, of others and of the call's own. Numbers: powers. Printed by gen_nl.py. Numbers: powers of ten. Printed by gen_nk.py. Numbers: logarithms, integers next to a number. Printed by gen_ni.py. Numbers: rounding to significant bits. Printed by gen_nj.py. Spans: their cells; in order. -/
import Derived.Test.YtjamgccgoapbeaaGreatDoorGNh
import Derived.Laws.AppendOwn
import Derived.Deep.LoopGhost
set_option linter.unusedVariables false
set_option maxRecDepth 100000
set_option maxHeartbeats 64000000
namespace Go.Proofs.YtjamgccgoapbeaaGreatDoor
open Go.RowKit
def Tri (w:World) (b j:Nat) (q:Rat):Prop:=∃s A k ca B m cb,w.cell? ⟨b,j,none⟩=some (.bool s)∧w.cell? ⟨b,j+1,none⟩=some (.slice A k ca)∧w.cell? ⟨b,j+2,none⟩=some (.slice B m cb)∧Nm w (.agg #[.bool s,.slice A k ca,.slice B m cb]) q
theorem Tri.mono {w w':World} {b j:Nat} {q:Rat} (h:Tri w b j q) (k:Ext w w'):Tri w' b j q:=by
 obtain⟨s,A,m,ca,B,n,cb,h1,h2,h3,h4⟩:=h;exact⟨s,A,m,ca,B,n,cb,ao k h1,ao k h2,ao k h3,h4.mono k⟩
def Pl (w:World) (v:Value) (l:List Rat):Prop:=∃A cap,v=.slice A l.length cap∧l.length≤cap∧((A=none∧l=[])∨∃b o,A=some ⟨b,o,none⟩∧∀i q,l[i]?=some q→Tri w b (o+i*3) q)
theorem Pl.mono {w w':World} {v:Value} {l:List Rat} (h:Pl w v l) (k:Ext w w'):Pl w' v l:=by
 obtain⟨A,cap,h1,h2,h3⟩:=h;refine⟨A,cap,h1,h2,?_⟩
 rcases h3 with h3|⟨b,o,h4,h5⟩
 ·exact .inl h3
 ·exact .inr ⟨b,o,h4,fun i q hq=>(h5 i q hq).mono k⟩
theorem Pl.nil (w:World):Pl w (.slice none 0 0) []:=⟨none,0,rfl,Nat.le_refl _,.inl ⟨rfl,rfl⟩⟩
theorem Pl.take {w:World} {A:Option Addr} {n cap:Nat} {l:List Rat} (h:Pl w (.slice A n cap) l) {k:Nat} (hk:k≤l.length):Pl w (.slice A k cap) (l.take k):=by
 obtain⟨A',cap',e,h2,h3⟩:=h
 injection e with e1 e2 e3
 subst e1 e2 e3;have hl:(l.take k).length=k:=by simp [hk]
 refine⟨A,cap,by rw [hl],by rw [hl];omega,?_⟩
 rcases h3 with ⟨h4,h5⟩|⟨b,o,h4,h5⟩
 ·exact .inl ⟨h4,by rw [h5];simp⟩
 ·refine .inr ⟨b,o,h4,fun i q hq=>h5 i q ?_⟩
  rw [List.getElem?_take] at hq
  split at hq
  ·exact hq
  ·cases hq
def PlO (w:World) (g:Nat) (v:Value) (l:List Rat):Prop:=∃cap cur,v=.slice (some ⟨g,0,none⟩) l.length cap∧w.heap[g]?=some (.cells cur 35 (0,0))∧l.length≤cap∧cap≤maxLen∧cur.size=cap*3∧∀i q,l[i]?=some q→Tri w g (i*3) q
theorem PlO.pl {w:World} {g:Nat} {v:Value} {l:List Rat} (h:PlO w g v l):Pl w v l:=by
 obtain⟨cap,cur,h1,h2,h3,h4,h5,h6⟩:=h;exact⟨_,cap,h1,h3,.inr ⟨g,0,rfl,fun i q hq=>by rw [Nat.zero_add];exact h6 i q hq⟩⟩
def NoU (w:World) (g m:Nat):Prop:=∀(j:Nat) (z:Int),j<m→w.cell? ⟨g,j,none⟩≠some (.int .u64 z)
theorem PlO.noU {w:World} {g:Nat} {v:Value} {l:List Rat} (h:PlO w g v l):NoU w g (l.length*3):=by
 obtain⟨cap,cur,h1,h2,h3,h4,h5,h6⟩:=h;intro j z hj he;have hi:j / 3<l.length:=by omega
 obtain⟨s,A,k,ca,B,m,cb,c0,c1,c2,-⟩:=h6 (j / 3) (l[j / 3]'hi) (List.getElem?_eq_getElem hi)
 rcases(show j=j / 3*3∨j=j / 3*3+1∨j=j / 3*3+2 by omega) with e|e|e
 ·rw [e,c0] at he;cases he
 ·rw [e,c1] at he;cases he
 ·rw [e,c2] at he;cases he
theorem Wd.keepC {W W':World} {v:Value} {n g m:Nat} (h:Wd W v n) (hg:NoU W g m) (hk:∀b j,(b≠g∨m≤j)→W'.cell? ⟨b,j,none⟩=W.cell? ⟨b,j,none⟩):Wd W' v n:=by
 obtain⟨A,cc,e,hc,hcl⟩:=h;refine⟨A,cc,e,hc,?_⟩
 rcases Nat.eq_zero_or_pos (dg n).length with h0|h0
 ·left;rw [List.length_eq_zero_iff.1 h0];rfl
 ·obtain⟨bl,o,hA,hce⟩:=hcl.at_ (by simpa using h0)
  right
  refine⟨bl,o,hA,fun j hj=>?_⟩;have hj':j<(dg n).length:=by simpa using hj
  have h1:=hce j hj;rw [hk bl (o+j) ?_]
  ·exact h1
  ·rcases Classical.em (bl≠g∨m≤o+j) with hn|hn
   ·exact hn
   ·exfalso
    have hb:bl=g:=Classical.byContradiction fun e=>hn (.inl e);have hm:o+j<m:=Nat.lt_of_not_le fun e=>hn (.inr e);rw [getD_map_u64 _ _ hj'] at h1;subst hb;exact hg _ _ hm h1
theorem Nm.keepC {W W':World} {v:Value} {q:Rat} {g m:Nat} (h:Nm W v q) (hg:NoU W g m) (hk:∀b j,(b≠g∨m≤j)→W'.cell? ⟨b,j,none⟩=W.cell? ⟨b,j,none⟩):Nm W' v q:=by
 obtain⟨vn,vd,e,h1,h2⟩:=h;exact⟨vn,vd,e,h1.keepC hg hk,h2.keepC hg hk⟩
end Go.Proofs.YtjamgccgoapbeaaGreatDoor
set_option linter.unusedVariables false
set_option maxRecDepth 100000
set_option maxHeartbeats 64000000
namespace Go.Proofs.YtjamgccgoapbeaaGreatDoor
open Go.RowKit
end Go.Proofs.YtjamgccgoapbeaaGreatDoor
set_option linter.unusedVariables false
set_option maxRecDepth 100000
set_option maxHeartbeats 64000000
namespace Go.Proofs.YtjamgccgoapbeaaGreatDoor
open Go.RowKit
end Go.Proofs.YtjamgccgoapbeaaGreatDoor
set_option linter.unusedVariables false
set_option maxRecDepth 100000
set_option maxHeartbeats 64000000
namespace Go.Proofs.YtjamgccgoapbeaaGreatDoor
open Go.RowKit
theorem bl_le {n M:Nat} (h:n<2 ^ M):bl n≤M:=by
 unfold bl
 split
 ·omega
 ·rename_i h0
  have:=(Nat.log2_lt h0).2 h
  omega
def logN (n d:Nat):Int:=
 if bl d≤bl n then (if n<d*2 ^ (bl n - bl d) then ((bl n - bl d:Nat):Int) - 1 else ((bl n - bl d:Nat):Int))
 else (if n*2 ^ (bl d - bl n)<d then -((bl d - bl n:Nat):Int) - 1 else -((bl d - bl n:Nat):Int))
def logQ (x:Rat):Int:=logN x.num.natAbs x.den
theorem logQ_bound {M:Nat} {x:Rat} (h:Bq M x):-(M:Int) - 1≤logQ x∧logQ x≤M:=by
 have h1:=bl_le h.1;have h2:=bl_le h.2;unfold logQ logN
 split <;> split <;> omega
def wholeN (n d:Nat) (away:Bool):Nat:=if away=true∧n % d≠0 then n / d+1 else n / d
def wholeQ (x:Rat) (away:Bool):Rat:=rat (decide (x.num<0)) (wholeN x.num.natAbs x.den away) 1
theorem wholeN_lt {n d B:Nat} {away:Bool} (h:n<2 ^ B):wholeN n d away<2 ^ (B+1):=by
 unfold wholeN;have h1:n / d≤n:=Nat.div_le_self _ _;rw [Nat.pow_succ]
 split <;> omega
theorem Bq.wh {B:Nat} {x:Rat} {away:Bool} (h:Bq B x):Bq (B+1) (wholeQ x away):=
 bq_rat (wholeN_lt h.1) (Nat.one_lt_two_pow (by omega)) (by decide)
end Go.Proofs.YtjamgccgoapbeaaGreatDoor
set_option linter.unusedVariables false
set_option maxRecDepth 100000
set_option maxHeartbeats 64000000
namespace Go.Proofs.YtjamgccgoapbeaaGreatDoor
open Go.RowKit
def stepQ (x:Rat) (bits:Int):Int:=logQ x - min (max bits 1) 2000+1
def au (x:Rat) (bits:Int) (away:Bool):Rat:=if x=0 then 0 else shQ (wholeQ (shQ x (-(stepQ x bits))) away) (stepQ x bits)
theorem stepQ_bound {M:Nat} {x:Rat} (h:Bq M x) (bits:Int):(stepQ x bits).natAbs≤M+2001:=by
 have:=logQ_bound h
 unfold stepQ;omega
theorem Bq.round {M:Nat} {x:Rat} {bits:Int} {away:Bool} (h:Bq M x) (hM:0<M):Bq (3*M+4003) (au x bits away):=by
 unfold au
 split
 ·exact bq_zero _ (by omega)
 ·have hs:=stepQ_bound h bits
  have h1:Bq (M+(M+2001)) (shQ x (-(stepQ x bits))):=(Bq.sh h).mono (by rw [Int.natAbs_neg];omega);have h2:=(Bq.wh h1:Bq _ (wholeQ (shQ x (-(stepQ x bits))) away));exact(Bq.sh h2).mono (by omega)
end Go.Proofs.YtjamgccgoapbeaaGreatDoor
set_option linter.unusedVariables false
set_option maxRecDepth 100000
set_option maxHeartbeats 64000000
namespace Go.Proofs.YtjamgccgoapbeaaGreatDoor
open Go.RowKit
def Sp (w:World) (v:Value) (lo hi:Rat):Prop:=∃x0 x1 x2 y0 y1 y2,v=.agg #[x0,x1,x2,y0,y1,y2]∧Nm w (.agg #[x0,x1,x2]) lo∧Nm w (.agg #[y0,y1,y2]) hi
theorem Sp.mono {w w':World} {v:Value} {lo hi:Rat} (h:Sp w v lo hi) (k:Ext w w'):Sp w' v lo hi:=by
 obtain⟨x0,x1,x2,y0,y1,y2,e,h1,h2⟩:=h;exact⟨x0,x1,x2,y0,y1,y2,e,h1.mono k,h2.mono k⟩
theorem Sp.form {w:World} {v:Value} {lo hi:Rat} (h:Sp w v lo hi):∃b1 A k ca B l cb b2 C m cc D n cd,v=.agg #[.bool b1,.slice A k ca,.slice B l cb,.bool b2,.slice C m cc,.slice D n cd]∧Nm w (.agg #[.bool b1,.slice A k ca,.slice B l cb]) lo∧Nm w (.agg #[.bool b2,.slice C m cc,.slice D n cd]) hi:=by
 obtain⟨x0,x1,x2,y0,y1,y2,rfl,h1,h2⟩:=h;obtain⟨b1,A,k,ca,B,l,cb,e1⟩:=h1.form2;obtain⟨b2,C,m,cc,D,n,cd,e2⟩:=h2.form2
 simp only [Value.agg.injEq,Array.mk.injEq,List.cons.injEq,and_true] at e1 e2
 obtain⟨rfl,rfl,rfl⟩:=e1;obtain⟨rfl,rfl,rfl⟩:=e2;exact⟨b1,A,k,ca,B,l,cb,b2,C,m,cc,D,n,cd,rfl,h1,h2⟩
theorem row6 {w W:World} {a b c d e f:Value} (h:Ext (w.alloc (.cells #[a,b,c,d,e,f] 37)) W):W.heap[w.heap.size]?=some (.cells #[a,b,c,d,e,f] 37 (0,0)):=
 (h.block _ (by simp)).trans (heap_alloc_new w _)
theorem ai {W:World} {g:Nat} {a b c d e f:Value} {T:TypeId} (h:W.heap[g]?=some (.cells #[a,b,c,d,e,f] T (0,0))):W.cell? ⟨g,0,none⟩=some a∧W.cell? ⟨g,1,none⟩=some b∧W.cell? ⟨g,2,none⟩=some c∧W.cell? ⟨g,3,none⟩=some d∧W.cell? ⟨g,4,none⟩=some e∧W.cell? ⟨g,5,none⟩=some f∧W.frozen? ⟨g,0,none⟩=false∧W.frozen? ⟨g,1,none⟩=false∧W.frozen? ⟨g,2,none⟩=false∧W.frozen? ⟨g,3,none⟩=false∧W.frozen? ⟨g,4,none⟩=false∧W.frozen? ⟨g,5,none⟩=false:=by
 refine⟨?_,?_,?_,?_,?_,?_,?_,?_,?_,?_,?_,?_⟩ <;> simp [World.cell?,World.frozen?,h]
def put6 (W:World) (g:Nat) (a b c d e f:Value):World:=(((((W.setCell ⟨g,0,none⟩ a).setCell ⟨g,1,none⟩ b).setCell ⟨g,2,none⟩ c).setCell ⟨g,3,none⟩ d).setCell ⟨g,4,none⟩ e).setCell ⟨g,5,none⟩ f
theorem af {w W:World} {g:Nat} (h:Ext w W) (hg:w.heap.size≤g) (a b c d e f:Value):Ext w (put6 W g a b c d e f):=
 ((((((h.setCell hg _).setCell hg _).setCell hg _).setCell hg _).setCell hg _).setCell hg _)
theorem ah {W:World} {g k:Nat} {o:Obj} (h:W.heap[k]?=some o) (hne:k≠g) (a b c d e f:Value):(put6 W g a b c d e f).heap[k]?=some o:=by
 unfold put6;rw [Below.heap_setCell _ _ _ _ hne,Below.heap_setCell _ _ _ _ hne,Below.heap_setCell _ _ _ _ hne,Below.heap_setCell _ _ _ _ hne,Below.heap_setCell _ _ _ _ hne,Below.heap_setCell _ _ _ _ hne];exact h
theorem ag {W:World} {g:Nat} {a0 b0 c0 d0 e0 f0:Value} {T:TypeId} (h:W.heap[g]?=some (.cells #[a0,b0,c0,d0,e0,f0] T (0,0))) (a b c d e f:Value):(put6 W g a b c d e f).heap[g]?=some (.cells #[a,b,c,d,e,f] T (0,0)):=by
 unfold put6
 simp [World.setCell,Array.getElem?_modify,h]
theorem Wd.put6 {W:World} {v:Value} {q g:Nat} {b1 b2:Bool} {A B C D:Option Addr} {k ca l cb m cc n cd:Nat} {T:TypeId} (h:Wd W v q) (hg:W.heap[g]?=some (.cells #[.bool b1,.slice A k ca,.slice B l cb,.bool b2,.slice C m cc,.slice D n cd] T (0,0))) (a b c d e f:Value):Wd (put6 W g a b c d e f) v q:=by
 obtain⟨A',cx,e',hc,hcl⟩:=h;refine⟨A',cx,e',hc,?_⟩
 rcases Nat.eq_zero_or_pos (dg q).length with h0|h0
 ·left;rw [List.length_eq_zero_iff.1 h0];rfl
 ·obtain⟨bl,o,hA,hce⟩:=hcl.at_ (by simpa using h0)
  right
  refine⟨bl,o,hA,fun j hj=>?_⟩;have hj':j<(dg q).length:=by simpa using hj
  have h1:=hce j hj
  have hne:bl≠g:=by
   intro hb;subst hb;rw [getD_map_u64 _ _ hj'] at h1
   simp only [World.cell?,hg] at h1
   rcases Nat.lt_or_ge (o+j) 6 with h3|h3
   ·rcases(show o+j=0∨o+j=1∨o+j=2∨o+j=3∨o+j=4∨o+j=5 by omega) with e|e|e|e|e|e <;> rw [e] at h1 <;> simp at h1
   ·rw [Array.getElem?_eq_none (by simpa using h3)] at h1
    simp at h1
  rw [←h1]
  apply World.cell?_of_block
  unfold Go.Proofs.YtjamgccgoapbeaaGreatDoor.put6;rw [Below.heap_setCell _ _ _ _ hne,Below.heap_setCell _ _ _ _ hne,Below.heap_setCell _ _ _ _ hne,Below.heap_setCell _ _ _ _ hne,Below.heap_setCell _ _ _ _ hne,Below.heap_setCell _ _ _ _ hne]
theorem Nm.put6 {W:World} {v:Value} {q:Rat} {g:Nat} {b1 b2:Bool} {A B C D:Option Addr} {k ca l cb m cc n cd:Nat} {T:TypeId} (h:Nm W v q) (hg:W.heap[g]?=some (.cells #[.bool b1,.slice A k ca,.slice B l cb,.bool b2,.slice C m cc,.slice D n cd] T (0,0))) (a b c d e f:Value):Nm (put6 W g a b c d e f) v q:=by
 obtain⟨vn,vd,e',h1,h2⟩:=h;exact⟨vn,vd,e',h1.put6 hg ..,h2.put6 hg ..⟩
def ap (lo hi:Rat):Rat × Rat:=if hi<lo then (hi,lo) else (lo,hi)
theorem sorted_c (M:Nat) (hM:M≤1099511627776) (v:Value) (lo hi:Rat) (w:World) (h:Sp w v lo hi) (b1:Bq M lo) (b2:Bq M hi):Calls Tryz.prog 98 #[v] w fun e w'=>∃v',e=.returned v'∧Sp w' v' (ap lo hi).1 (ap lo hi).2∧Ext w w':=by
 obtain⟨c1,A,k,ca,B,l,cb,c2,C,m,cc,D,n,cd,rfl,h1,h2⟩:=h.form;have H1:=ZZ h1;have H2:=ZZ h2;have B1:=ZZ b1;have B2:=ZZ b2;have HM:=ZZ hM;clear h h1 h2 b1 b2 hM
 go_enter Tryz.func98,Tryz.ntmps98
 go_wp2_with fail;refine(cmp_q M HM.out _ _ _ _ _ (H1.out.mono (ext2 _ _ _)) (H2.out.mono (ext2 _ _ _)) B1.out B2.out).mono ?_
 rintro e w3 ⟨rfl,k3⟩;have hrb:=row6 (ak (ab _ (.cells #[.bool false,.slice none 0 0,.slice none 0 0,.bool false,.slice none 0 0,.slice none 0 0] 37)) k3)
 have hrz:w3.heap[w.heap.size+1]?=some (.cells #[.bool false,.slice none 0 0,.slice none 0 0,.bool false,.slice none 0 0,.slice none 0 0] 37 (0,0)):=by
  have q:=row6 k3
  simpa using q
 obtain⟨x0,x1,x2,x3,x4,x5,-⟩:=ai hrb;obtain⟨z0,z1,z2,z3,z4,z5,f0,f1,f2,f3,f4,f5⟩:=ai hrz;have HRZ:=ZZ hrz;have KW:=ZZ (ak (ext2 _ _ _) k3);clear hrb hrz k3;generalize hcv:cmpQ lo hi=cv at *;have HCV:=ZZ hcv;clear hcv
 rcases(show 0<cv∨cv≤0 by omega) with hc|hc
 ·have HLT:=ZZ (show hi<lo by
   have h1:=(cmpQ_pos lo hi).1;have h2:=cmpQ_one lo hi;rw [HCV.out] at h1 h2;exact h1 (by omega))
  go_wp2_with fail;refine bodyPost_ret (v:=.agg #[.bool c2,.slice C m cc,.slice D n cd,.bool c1,.slice A k ca,.slice B l cb]) (by simp [results,Tryz.f98];go_simp) rfl ?_
  refine⟨_,rfl,?_,af KW.out (Nat.le_succ _) _ _ _ _ _ _⟩;rw [show ap lo hi=(hi,lo) from if_pos HLT.out];exact⟨_,_,_,_,_,_,rfl,(H2.out.mono KW.out).put6 HRZ.out _ _ _ _ _ _,(H1.out.mono KW.out).put6 HRZ.out _ _ _ _ _ _⟩
 ·have HLT:=ZZ (show ¬ hi<lo from fun h=>by
   have h1:=(cmpQ_pos lo hi).2 h;rw [HCV.out] at h1
   omega)
  go_wp2_with fail;refine bodyPost_ret (v:=.agg #[.bool c1,.slice A k ca,.slice B l cb,.bool c2,.slice C m cc,.slice D n cd]) (by simp [results,Tryz.f98];go_simp) rfl ?_
  refine⟨_,rfl,?_,af KW.out (Nat.le_succ _) _ _ _ _ _ _⟩;rw [show ap lo hi=(lo,hi) from if_neg HLT.out];exact⟨_,_,_,_,_,_,rfl,(H1.out.mono KW.out).put6 HRZ.out _ _ _ _ _ _,(H2.out.mono KW.out).put6 HRZ.out _ _ _ _ _ _⟩
end Go.Proofs.YtjamgccgoapbeaaGreatDoor
