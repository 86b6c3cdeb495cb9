/- Products of polynomials, plain: what out holds after i rounds and j of the next. A range over a function whose rounds never leave: what is handed to a round holds in its world; what the iterator says in the end speaks of the last world. Products of polynomials: the walk. Printed by gen_qn.py. -/
import Derived.Test.YtoefieefcndlkaaGreatDoorGVx
import Derived.RangeFuncNested
import Derived.RangeFuncBound
import Derived.RangeFuncLeaves
import Derived.Laws.MakeOwn
set_option linter.unusedVariables false
set_option maxRecDepth 100000
set_option maxHeartbeats 64000000
namespace Go.Proofs.YtoefieefcndlkaaGreatDoor
def pcv (f g:Nat→Rat):Nat→Nat→Rat
 | 0,_=>0
 | i+1,k=>pcv f g i k+(if i≤k then f i*g (k - i) else 0)
theorem pcv_succ (f g:Nat→Rat) (i k:Nat):pcv f g (i+1) k=pcv f g i k+(if i≤k then f i*g (k - i) else 0):=rfl
theorem pcv_shift (f g:Nat→Rat) (i k:Nat):pcv f g (i+1) (k+1)=f 0*g (k+1)+pcv (fun j=>f (j+1)) g i k:=by
 induction i with
 | zero=>rw [pcv_succ,if_pos (Nat.zero_le _)];show 0+f 0*g (k+1)=f 0*g (k+1)+0;grind
 | succ i ih=>
  rw [pcv_succ,ih,pcv_succ (fun j=>f (j+1)),Nat.add_sub_add_right]
  by_cases h:i≤k
  ·rw [if_pos h,if_pos (by omega)];grind
  ·rw [if_neg h,if_neg (by omega)];grind
theorem pcv_more (f g:Nat→Rat) (k n:Nat):pcv f g (k+1+n) k=pcv f g (k+1) k:=by
 induction n with
 | zero=>rfl
 | succ n ih=>rw [show k+1+(n+1)=(k+1+n)+1 by omega,pcv_succ,if_neg (by omega),ih];grind
theorem pcv_zero {f:Nat→Rat} {m:Nat} (h:∀i,m≤i→f i=0) (g:Nat→Rat) (k n:Nat):pcv f g (m+n) k=pcv f g m k:=by
 induction n with
 | zero=>rfl
 | succ n ih=>
  rw [show m+(n+1)=(m+n)+1 by omega,pcv_succ,ih,h (m+n) (by omega)]
  split <;> grind
theorem cnv_pcv (f g:Nat→Rat) (k:Nat):cnv f g k=pcv f g (k+1) k:=by
 induction k generalizing f with
 | zero=>rw [pcv_succ,if_pos (Nat.le_refl _)];show f 0*g 0=0+f 0*g 0;grind
 | succ k ih=>rw [cnv_succ,ih,pcv_shift]
theorem pcv_all {f:Nat→Rat} {m:Nat} (h:∀i,m≤i→f i=0) (g:Nat→Rat) (k:Nat):pcv f g m k=cnv f g k:=by
 rw [cnv_pcv]
 rcases Nat.le_total m (k+1) with e|e
 ·obtain⟨n,hn⟩:∃n,k+1=m+n:=⟨k+1 - m,by omega⟩
  rw [hn,pcv_zero h]
 ·obtain⟨n,hn⟩:∃n,m=k+1+n:=⟨m - (k+1),by omega⟩
  rw [hn,pcv_more]
def accL (p q:List Rat) (i j:Nat):List Rat:=(List.range (p.length+q.length)).map fun k=>pcv (co p) (co q) i k+(if i≤k∧k<i+j then co p i*co q (k - i) else 0)
theorem acc_len (p q:List Rat) (i j:Nat):(accL p q i j).length=p.length+q.length:=by simp [accL]
theorem acc_get (p q:List Rat) (i j:Nat) {k:Nat} (hk:k<p.length+q.length):(accL p q i j)[k]?=some (pcv (co p) (co q) i k+(if i≤k∧k<i+j then co p i*co q (k - i) else 0)):=by
 unfold accL;rw [List.getElem?_map,List.getElem?_range hk];rfl
theorem acc_ext (p q:List Rat) (i j i' j':Nat) (h:∀k,pcv (co p) (co q) i k+(if i≤k∧k<i+j then co p i*co q (k - i) else 0)=pcv (co p) (co q) i' k+(if i'≤k∧k<i'+j' then co p i'*co q (k - i') else 0)):accL p q i j=accL p q i' j':=by
 unfold accL;exact List.map_congr_left fun k _=>h k
theorem acc_zero (p q:List Rat):accL p q 0 0=List.replicate (p.length+q.length) 0:=by
 apply List.ext_getElem?
 intro k
 rcases Nat.lt_or_ge k (p.length+q.length) with hk|hk
 ·rw [acc_get p q 0 0 hk,if_neg (by omega),List.getElem?_replicate,if_pos hk]
  show some ((0:Rat)+0)=some 0
  rw [Rat.add_zero]
 ·rw [List.getElem?_eq_none (by rw [acc_len];exact hk),List.getElem?_eq_none (by rw [List.length_replicate];exact hk)]
theorem acc_at (p q:List Rat) {i j:Nat} (hi:i<p.length) (hj:j<q.length):(accL p q i j)[i+j]?=some (pcv (co p) (co q) i (i+j)):=by
 rw [acc_get p q i j (by omega),if_neg (by omega),Rat.add_zero]
theorem acc_set (p q:List Rat) {i j:Nat} (hi:i<p.length) (hj:j<q.length):(accL p q i j).set (i+j) (pcv (co p) (co q) i (i+j)+co p i*co q j)=accL p q i (j+1):=by
 apply List.ext_getElem?
 intro k
 rcases Nat.lt_or_ge k (p.length+q.length) with hk|hk
 ·by_cases e:i+j=k
  ·subst e
   rw [List.getElem?_set_self (by rw [acc_len];exact hk),acc_get p q i (j+1) hk,if_pos (by omega),Nat.add_sub_cancel_left]
  ·rw [List.getElem?_set_ne e,acc_get p q i j hk,acc_get p q i (j+1) hk]
   by_cases h:i≤k∧k<i+j
   ·rw [if_pos h,if_pos (by omega)]
   ·rw [if_neg h,if_neg (by omega)]
 ·rw [List.getElem?_eq_none (by rw [List.length_set,acc_len];exact hk),List.getElem?_eq_none (by rw [acc_len];exact hk)]
theorem acc_next (p q:List Rat) (i:Nat):accL p q i q.length=accL p q (i+1) 0:=by
 refine acc_ext _ _ _ _ _ _ fun k=>?_;rw [pcv_succ,if_neg (c:=i+1≤k∧k<i+1+0) (by omega),Rat.add_zero]
 by_cases h:i≤k
 ·by_cases h2:k<i+q.length
  ·rw [if_pos ⟨h,h2⟩,if_pos h]
  ·rw [if_neg (by omega),if_pos h,co_ge (p:=q) (i:=k - i) (by omega)];grind
 ·rw [if_neg (by omega),if_neg h]
theorem acc_skip (p q:List Rat) (i:Nat) (h0:co p i=0):accL p q i 0=accL p q (i+1) 0:=by
 refine acc_ext _ _ _ _ _ _ fun k=>?_;rw [pcv_succ,if_neg (c:=i+1≤k∧k<i+1+0) (by omega),if_neg (c:=i≤k∧k<i+0) (by omega),h0]
 split <;> grind
def mulF (p q:List Rat):List Rat:=trimF (mulR p q)
theorem mulF_acc (p q:List Rat):trimF (accL p q p.length 0)=mulF p q:=trim_co fun k=>by
 rw [co_mulR]
 rcases Nat.lt_or_ge k (p.length+q.length) with hk|hk
 ·show ((accL p q p.length 0)[k]?).getD 0=_
  rw [acc_get p q _ 0 hk,if_neg (by omega),Rat.add_zero];exact pcv_all (fun i hi=>co_ge hi) _ _
 ·rw [co_ge (by rw [acc_len];exact hk),←pcv_all (m:=p.length) (fun i hi=>co_ge hi)]
  have h:∀n,n≤p.length→pcv (co p) (co q) n k=0:=by
   intro n
   induction n with
   | zero=>intro _;rfl
   | succ n ih=>
    intro hn;rw [pcv_succ,ih (by omega),co_ge (p:=q) (i:=k - n) (by omega)]
    split <;> grind
  exact(h _ (Nat.le_refl _)).symm
theorem bq_co {M:Nat} {p:List Rat} (hM:0<M) (h:∀x ∈ p,Bq M x) (i:Nat):Bq M (co p i):=by
 rcases Nat.lt_or_ge i p.length with hi|hi
 ·have e:p[i]?=some (co p i):=by unfold co;rw [List.getElem?_eq_getElem hi];rfl
  exact h _ (List.mem_of_getElem? e)
 ·rw [co_ge hi];exact bq_zero M hM
theorem pcv_bq {M:Nat} {f g:Nat→Rat} (hf:∀i,Bq M (f i)) (hg:∀i,Bq M (g i)) (i k:Nat):Bq (i*(M+M+1)+1) (pcv f g i k):=by
 induction i with
 | zero=>exact bq_zero _ (by omega)
 | succ i ih=>
  rw [pcv_succ]
  split
  ·exact(ih.add ((hf i).mul (hg (k - i)))).mono (by rw [Nat.succ_mul];omega)
  ·rw [Rat.add_zero];exact ih.mono (by rw [Nat.succ_mul];omega)
end Go.Proofs.YtoefieefcndlkaaGreatDoor
set_option linter.unusedVariables false
set_option maxRecDepth 100000
set_option maxHeartbeats 64000000
namespace Go.Proofs.YtoefieefcndlkaaGreatDoor
open Go Go.RowKit
theorem ext_grows {A B:World} (h:Ext A B):A.grownBy B none:=⟨h.os,h.tape,h.output,h.size,fun k hk _=>h.block k hk⟩
def KeepZ (Z:Nat→Obj→Prop) (A B:World):Prop:=A.heap.size≤B.heap.size∧∀k o,A.heap[k]?=some o→o.isCells=true→Z k o→B.heap[k]?=some o
theorem KeepZ.trans {Z:Nat→Obj→Prop} {A B C:World} (h:KeepZ Z A B) (k:KeepZ Z B C):KeepZ Z A C:=⟨Nat.le_trans h.1 k.1,fun i o hi ho hz=>k.2 i o (h.2 i o hi ho hz) ho hz⟩
theorem KeepZ.of_ext {Z:Nat→Obj→Prop} {A B:World} (h:Ext A B):KeepZ Z A B:=⟨h.size,fun i o hi _ _=>(h.block i (Array.getElem?_eq_some_iff.1 hi).1).trans hi⟩
theorem KeepZ.turn {Z:Nat→Obj→Prop} {A:World} {l:Nat} {o:Obj} (o':Obj) (h:A.heap[l]?=some o) (ho:o.isCells=false):KeepZ Z A (A.putObj l o'):=
 ⟨by simp,fun i u hi hu _=>by
  by_cases e:i=l
  ·subst e;rw [h] at hi;cases hi;rw [ho] at hu;cases hu
  ·exact(World.putObj_heap_other e).trans hi⟩
def SeqR {α:Type} (P:Program) (n:Nat) (g:Nat) (lb:Array Value) (encs:α→Array Value) (R:α→World→Prop) (Z:Nat→Obj→Prop) (S:List α→World→Prop) (N:Nat) (w:World):Prop:=
 ∀(l:Nat) (J:List α→World→Prop) (W:World),Ext w W→(∀pre A B,J pre A→Ext A B→J pre B)→(∀pre x W1,J pre W1→R x W1→pre.length<N→YieldAt Fence.wide (n - 1) P l (encs x) W1 fun e W'=>e=.returned (.bool true)∧J (pre ++ [x]) W'∧KeepZ Z W1 W')→J [] W→CallsIn Fence.wide n P g (#[.func (.yield l) #[] #[]] ++ lb) W fun e W'=>(∃v,e=.returned v)∧∃xs,S xs W'∧J xs W'
def lrec (fn:FuncId) (tmps:Array Value) (ps:Array Tmp) (assign body:Code) (B:Nat) (st:LoopState) (pe:Option Code):Loop:=
 { state:=st,pending:=pe,fn,tmps,params:=ps,assign,body,defers:=B }
theorem wpIn_rangeR {α:Type} {P:Program} {n:Nat} {g:Operand} {ps:Array Tmp} {assign body:Code} {Q:Exit→Act→World→Prop} {a:Act} {w w0:World} {gf:Nat} {lb:Array Value} (hg:a.eval g=.func (.func gf) #[] lb) (eg:∀args w,(callFunc gf args).run P w=.ok (.enter gf args) w) {encs:α→Array Value} {R:α→World→Prop} {Z:Nat→Obj→Prop} {S:List α→World→Prop} {N:Nat} (hseq:SeqR P (n - 1) gf lb encs R Z S N w0) (hw:Ext w0 w) (hps:∀x,(encs x).size=ps.size) (I:List α→World→Prop) (hI:OwnFrom w.heap.size I) (h0:I [] w) (Ax:α→Act→World→Prop) (hAx:∀x a',OwnFrom w.heap.size (fun (_:Unit) W=>Ax x a' W)) (hS:OwnFrom w.heap.size S) (hassign:∀(l:Nat) (pre:List α) (x:α) (W:World) (K:Act→World→Prop),I pre W→R x W→(∀a' W',Ext W W'→Ax x a' W'→K a' W')→assign.wpIn (Fence.wide.inRound l) (n - 1 - 1) P (Exit.then K (fun _ _ _=>False)) { tmps:=(ps.zip (encs x)).foldl (fun t (p,v)=>t.setIfInBounds p v) a.tmps,defers:=[] } W) (hbody:∀(l:Nat) (pre:List α) (x:α) (a':Act) (W:World),I pre W→Ax x a' W→pre.length<N→body.wpIn (Fence.wide.inRound l) (n - 1 - 1) P (fun e _ W'=>e=.normal∧KeepsFrom w.heap.size W W'∧KeepZ Z W W'∧I (pre ++ [x]) W') a' W) (hdone:∀(D:Nat) (xs:List α) (W:World),w.heap.size≤D→S xs W→I xs W→W.heap[D]?=some (.deferred (some []))→Q .normal { a with defers:={ target:=.collected D,args:=#[] } :: a.defers } W):(Code.rangeFunc g ps assign body).wpIn Fence.wide n P Q a w:=by
 refine wpIn_rangeFunc fun fn hfn=>?_;have size1:∀o:Obj,(w.alloc o).heap.size=w.heap.size+1:=fun o=>World.size_alloc w o;obtain⟨W1,hW1⟩:∃W1,W1=(w.alloc (.deferred (some []))).alloc (.loop (lrec fn a.tmps ps assign body w.heap.size .ready none)):=⟨_,rfl⟩;have x1:Ext w W1:=by rw [hW1];exact ak (ab _ _) (ab _ _)
 have hL:W1.heap[w.heap.size+1]?=some (.loop (lrec fn a.tmps ps assign body w.heap.size .ready none)):=by
  rw [hW1,←size1 (.deferred (some []))];exact World.alloc_heap_new _ _
 have hD:W1.heap[w.heap.size]?=some (.deferred (some [])):=by
  rw [hW1];exact((ab (w.alloc (.deferred (some []))) _).block _ (by rw [size1];omega)).trans (World.alloc_heap_new w _)
 have hI1:I [] W1:=hI _ _ _ _ h0 (ext_grows x1) (fun r e=>by cases e);refine⟨w.heap.size+1,[{ target:=.collected w.heap.size,args:=#[] }],W1,{ target:=.fn (.func gf) lb,args:=#[.func (.yield (w.heap.size+1)) #[] #[]] },W1,gf,#[.func (.yield (w.heap.size+1)) #[] #[]] ++ lb,W1,?_,?_,fun _ _=>trivial,?_,fun h=>(by cases h),?_⟩
 ·rw [hW1];exact run_enterLoop_outer _ _ _ _ _
 ·simp only [resolve,hg];simp [go_sem]
 ·simp [invoke,go_sem,eg]
 ·refine(hseq (w.heap.size+1) (fun pre W=>I pre W∧W.heap[w.heap.size+1]?=some (.loop (lrec fn a.tmps ps assign body w.heap.size .ready none))∧W.heap[w.heap.size]?=some (.deferred (some []))) W1 (ak hw x1) (fun pre A B h k=>⟨hI _ _ _ _ h.1 (ext_grows k) (fun r e=>by cases e),(k.block _ (Array.getElem?_eq_some_iff.1 h.2.1).1).trans h.2.1,(k.block _ (Array.getElem?_eq_some_iff.1 h.2.2).1).trans h.2.2⟩) ?_ ⟨hI1,hL,hD⟩).mono ?_
  ·rintro pre x W ⟨hi,hl,hk⟩ hr hlen
   refine⟨fn,_,assign,body,run_yield (args:=encs x) hl (hps x),roundIn_of_wpIn hfn (hassign _ pre x W _ hi hr fun a' Wa ka hax=>?_)⟩;have hia:I pre Wa:=hI _ _ _ _ hi (ext_grows ka) (fun r e=>by cases e);have hla:=(ka.block _ (Array.getElem?_eq_some_iff.1 hl).1).trans hl;have hka:=(ka.block _ (Array.getElem?_eq_some_iff.1 hk).1).trans hk;have hlt:w.heap.size+1<Wa.heap.size:=(Array.getElem?_eq_some_iff.1 hla).1;refine⟨_,run_beginRound hla rfl,?_⟩;generalize hWb:Wa.putObj (w.heap.size+1) _=Wb;have hgb:Wa.grownBy Wb (some (w.heap.size+1)):=by rw [←hWb];exact grownBy_putObj' _ _ _
   have hrow:∀r,some (w.heap.size+1)=some r→w.heap.size≤r∧∃o:Obj,Wa.heap[r]?=some o∧o.isCells=false:=fun r e=>by cases e;exact⟨by omega,_,hla,rfl⟩
   have hlb:Wb.heap[w.heap.size+1]?=some (.loop { lrec fn a.tmps ps assign body w.heap.size .ready none with state:=.busy }):=by rw [←hWb];exact World.putObj_heap_same hlt
   have hkb:Wb.heap[w.heap.size]?=some (.deferred (some [])):=by rw [←hWb];exact(World.putObj_heap_other (by omega)).trans hka
   have hzb:KeepZ Z W Wb:=(KeepZ.of_ext ka).trans (by rw [←hWb];exact KeepZ.turn _ hla rfl);refine wpIn_mono (hbody _ pre x a' Wb (hI _ _ _ _ hia hgb hrow) (hAx x a' () _ _ _ hax hgb hrow) hlen) ?_;rintro e a3 W3 ⟨rfl,hkf,hz,hi3⟩;have hl3:=hkf.same _ _ (by omega) hlb rfl;have hk3:=hkf.same _ _ (Nat.le_refl _) hkb rfl;refine⟨_,_,run_endRound none hl3,rfl,⟨hI _ _ _ _ hi3 (grownBy_putObj' _ _ _) (fun r e=>by cases e;exact⟨by omega,_,hl3,rfl⟩),?_,?_⟩,hzb.trans (hz.trans (KeepZ.turn _ hl3 rfl))⟩
   ·exact World.putObj_heap_same (Array.getElem?_eq_some_iff.1 hl3).1
   ·exact(World.putObj_heap_other (by omega)).trans hk3
  ·rintro e W2 ⟨⟨v,rfl⟩,xs,hs,hi,hl,hk⟩
   have hrow:∀r,some (w.heap.size+1)=some r→w.heap.size≤r∧∃o:Obj,W2.heap[r]?=some o∧o.isCells=false:=fun r e=>by cases e;exact⟨by omega,_,hl,rfl⟩
   refine⟨none,_,run_endLoop hl (by simp [lrec]),hdone _ xs _ (Nat.le_refl _) (hS _ _ _ _ hs (grownBy_putObj' _ _ _) hrow) (hI _ _ _ _ hi (grownBy_putObj' _ _ _) hrow) ?_⟩;exact(World.putObj_heap_other (by omega)).trans hk
end Go.Proofs.YtoefieefcndlkaaGreatDoor
set_option linter.unusedVariables false
set_option maxRecDepth 100000
set_option maxHeartbeats 64000000
namespace Go.Proofs.YtoefieefcndlkaaGreatDoor
open Go.RowKit
def zrw (n:Nat):Array Value:=madeCells #[.bool false,.slice none 0 0,.slice none 0 0] (n*3)
theorem mk_nums (n:Nat) (z:Int) (hz:z=(n:Int)) (hn:n≤1000000) (w:World):(Instr.makeSlice 25 (.int .i64 z) (.int .i64 z)).run Tryz.prog w=.ok (.slice (some ⟨w.heap.size,0,none⟩) n n) (w.alloc (.cells (zrw n) 52)):=by
 subst hz;obtain⟨i,hi,h1,h2,h3⟩:=info_parts info_num;have h:=run_make (P:=Tryz.prog) w 25 52 i _ Tryz.underlying25 hi h1 .i64 .i64 (n:Int) (n:Int) (by omega) (Int.le_refl _) (by rw [h3];omega) (by omega);rw [h,h2]
 rfl
theorem zrw_get (n i:Nat) (hi:i<n):(zrw n)[i*3]?=some (.bool false)∧(zrw n)[i*3+1]?=some (.slice none 0 0)∧(zrw n)[i*3+2]?=some (.slice none 0 0):=by
 have key:∀r,r<3→(zrw n)[i*3+r]?=some ((#[Value.bool false,Value.slice none 0 0,Value.slice none 0 0]:Array Value)[(i*3+r) % 3]!):=fun r hr=>by
  unfold zrw madeCells;rw [Array.getElem?_map,Array.getElem?_range,if_pos (by omega)]
  rfl
 refine⟨?_,?_,?_⟩
 ·have h:=key 0 (by decide);rw [show (i*3+0) % 3=0 by omega] at h;exact h
 ·have h:=key 1 (by decide);rw [show (i*3+1) % 3=1 by omega] at h;exact h
 ·have h:=key 2 (by decide);rw [show (i*3+2) % 3=2 by omega] at h;exact h
theorem plo_new (w:World) (n:Nat) (hn:n≤1000000):PlO (w.alloc (.cells (zrw n) 52)) w.heap.size (.slice (some ⟨w.heap.size,0,none⟩) n n) (List.replicate n 0):=by
 have hr:=heap_alloc_new w (.cells (zrw n) 52);refine⟨n,zrw n,by rw [List.length_replicate],hr,by rw [List.length_replicate];exact Nat.le_refl _,by unfold maxLen;omega,size_madeCells _ _,fun i q hq=>?_⟩;rw [List.getElem?_replicate] at hq
 split at hq
 ·rename_i hi
  obtain rfl:(0:Rat)=q:=Option.some.inj hq;obtain⟨z0,z1,z2⟩:=zrw_get n i hi;exact⟨_,_,_,_,_,_,_,by rw [cell_of_row _ _ _ _ _ _ hr];exact z0,by rw [cell_of_row _ _ _ _ _ _ hr];exact z1,by rw [cell_of_row _ _ _ _ _ _ hr];exact z2,Nm.zero _⟩
 ·cases hq
theorem PlO.mono {w w':World} {g:Nat} {v:Value} {l:List Rat} (h:PlO w g v l) (k:Ext w w'):PlO w' g v l:=by
 obtain⟨cp,cur,e,hh,h1,h2,h3,h4⟩:=h;exact⟨cp,cur,e,(k.block _ (lt_of_block hh)).trans hh,h1,h2,h3,fun i r hr=>(h4 i r hr).mono k⟩
theorem mul_p (M:Nat) (hM:0<M) (vp vq:Value) (p q:List Rat) (hlp:p.length≤100000) (hlq:q.length≤100000) (hK:p.length*(M+M+1)+1≤1099511627776) (w:World) (hp:Pl w vp p) (hq:Pl w vq q) (hbp:∀x ∈ p,Bq M x) (hbq:∀x ∈ q,Bq M x):Calls Tryz.prog 15 #[vp,vq] w fun e w'=>∃v',e=.returned v'∧PlN w.heap.size w' v' (mulF p q)∧Ext w w':=by
 obtain⟨A,cap,rfl,hc,hA⟩:=id hp;obtain⟨C,cap2,rfl,hc2,hC⟩:=id hq;obtain⟨m,hm⟩:∃m,p.length=m:=⟨_,rfl⟩;obtain⟨n,hn⟩:∃n,q.length=n:=⟨_,rfl⟩;rw [hm,hn]
 have q3:IntKind.i64.wrap ((m:Int)+(n:Int))=((m+n:Nat):Int):=by
  rw [show (m:Int)+(n:Int)=((m+n:Nat):Int) by omega];exact IntWalk.i64_in _ (by omega)
 have qmk:=mk_nums (m+n) ((m+n:Nat):Int) rfl (by omega) w;have qmk2:=mk_nums (m+n) ((m:Int)+(n:Int)) (by omega) (by omega) w;have PO1:=ZZ (plo_new w (m+n) (by omega));have HMM:=ZZ hm;have HNN:=ZZ hn;have HLP:=ZZ hlp;have HLQ:=ZZ hlq;have HAA:=ZZ hA;have HCC:=ZZ hC;have HBP:=ZZ hbp;have HBQ:=ZZ hbq;have HM0:=ZZ hM;have HK:=ZZ hK
 have HMK:=ZZ (show p.length≠0→M+M≤p.length*(M+M+1)+1 from fun h=>by
  have:1*(M+M+1)≤p.length*(M+M+1):=Nat.mul_le_mul_right _ (by omega)
  omega)
 clear hp hq hlp hlq hm hn hA hC hc hc2 hbp hbq hM hK
 go_enter Tryz.func15,Tryz.ntmps15
 go_upto_region 2 with (fail)
 have E1:=ZZ (ab w (.cells (zrw (m+n)) 52));generalize World.alloc w (.cells (zrw (m+n)) _)=W1 at *;obtain⟨g,hg⟩:∃g,w.heap.size=g:=⟨_,rfl⟩;have PO1:=ZZ (show PlO W1 g (.slice (some ⟨g,0,none⟩) (m+n) (m+n)) (List.replicate (m+n) 0) from hg ▸ PO1.out);have HG:=ZZ hg;rw [hg];clear hg;go_wp2_with fail
 go_loopg [18] m (fun k u wr=>∃i,Hid (i+k=m)∧u=.int .i64 (i:Int)∧Hid (PlO wr g (.slice (some ⟨g,0,none⟩) (m+n) (m+n)) (accL p q i 0))∧Hid (Ext w wr))
 case atStart=>exact⟨0,ZZ (Nat.zero_add _),rfl,ZZ (by rw [acc_zero,HMM.out,HNN.out];exact PO1.out),E1⟩
 case round=>
  obtain⟨i,HI,rfl,HO,HE⟩:=hrel;rename World=>WR
  rcases Nat.eq_zero_or_pos gk with hz|hz
  ·subst hz
   obtain rfl:i=m:=HI.out;have q1:decide ((i:Int)<(i:Int))=false:=decide_eq_false (Int.lt_irrefl _);go_wp2_with fail;refine(trim_q _ (accL p q i 0) (by rw [acc_len,HMM.out,HNN.out];have h1:=HLP.out;have h2:=HLQ.out;rw [HMM.out] at h1;rw [HNN.out] at h2;omega) _ (by have h:=HO.out.pl;exact h)).mono ?_;rintro e w' ⟨v',rfl,hn,kk⟩;rw [show trimF (accL p q i 0)=mulF p q by rw [←mulF_acc p q,HMM.out]] at hn;have HN:=ZZ hn;have HK2:=ZZ kk;clear hn kk;go_wp2_with fail;go_ret;refine⟨_,rfl,?_,ak HE.out HK2.out⟩
   rcases HN.out with hn|⟨g,hg,hn⟩
   ·exact .inl hn
   ·refine .inr ⟨g,?_,hn⟩
    have h1:=HE.out.size;have h2:=HG.out;omega
  ·have him:i<m:=by have:=HI.out;omega
   have hip:i<p.length:=by rw [HMM.out];exact him
   have q1:decide ((i:Int)<(m:Int))=true:=decide_eq_true (by omega);have q4:(i:Int)<(m:Int):=by omega
   have q5:(0:Int)≤(i:Int):=by omega
   rcases HAA.out with ⟨-,h5⟩|⟨b,o,rfl,ht⟩
   ·rw [h5] at hip;simp at hip
   have hp2:p[i]?=some (co p i):=by unfold co;rw [List.getElem?_eq_getElem hip];rfl
   obtain⟨s1,A1,k1,ca1,B1,l1,cb1,c0,c1,c2,hn1⟩:=(ht i _ hp2).mono HE.out;obtain⟨c,hcs⟩:∃c,(co p i).num.sign=c:=⟨_,rfl⟩;have HCS:=ZZ hcs;have BA:=ZZ (HBP.out (co p i) (List.mem_of_getElem? hp2));have HA1:=ZZ (hn1.mono (ab WR (.cells #[.bool s1,.slice A1 k1 ca1,.slice B1 l1 cb1] 52)));have EA:=ZZ (ab WR (.cells #[.bool s1,.slice A1 k1 ca1,.slice B1 l1 cb1] 52));have RA:=ZZ (heap_alloc_new WR (.cells #[.bool s1,.slice A1 k1 ca1,.slice B1 l1 cb1] 52));have HZ:=ZZ hz;have HIP:=ZZ hip;clear hn1 hp2 ht hcs hz hip
   go_upto_region 5 with (fail)
   generalize World.alloc WR (.cells #[.bool s1,.slice A1 k1 ca1,.slice B1 l1 cb1] _)=W3 at *;have HGA:=ZZ (show WR.heap.size≠g from fun e=>by obtain⟨cp,cur,-,hh,-⟩:=HO.out;have:=lt_of_block hh;omega);generalize WR.heap.size=ga at *;obtain⟨a0,a1,a2,-⟩:=ai RA.out;go_wp2_with fail;refine(sign_q' _ (co p i) _ c HCS.out HA1.out).mono ?_;rintro e w4 ⟨rfl,k4⟩;have K4:=ZZ k4;clear c0 c1 c2 a0 a1 a2 k4
   by_cases hc0:c=0
   ·subst hc0
    have z0:((0:Int) == 0)=true:=rfl;have HZ0:=ZZ ((num_zero_iff HCS.out).1 rfl);go_wp2_with fail
    go_roundg (gk - 1)
    case measure=>have:=HZ.out;omega
    case rel=>exact⟨i+1,ZZ (by have:=HI.out;have:=HZ.out;omega),by have h1:=HLP.out;have h2:=HIP.out;rw [IntWalk.wrap64_in _ ⟨by omega,by omega⟩];rfl,ZZ (by rw [←acc_skip p q i HZ0.out];exact HO.out.mono (ak EA.out K4.out)),ZZ (ak HE.out (ak EA.out K4.out))⟩
   ·have z0:(c == 0)=false:=beq_eq_false_iff_ne.2 hc0
    clear hc0;have PW:=ZZ (HO.out.mono (ak EA.out K4.out));have EW4:=ZZ (ak HE.out (ak EA.out K4.out));have NA0:=ZZ (HA1.out.mono K4.out);have RA4:=ZZ ((K4.out.block _ (lt_of_block RA.out)).trans RA.out);go_wp2_with fail;obtain⟨ko,rfl⟩:∃ko,ko=gk:=⟨_,rfl⟩
    go_loopg [28] n (fun k u wr=>∃j,Hid (j+k=n)∧u=.int .i64 (j:Int)∧Hid (PlO wr g (.slice (some ⟨g,0,none⟩) (m+n) (m+n)) (accL p q i j))∧Hid (Ext w wr)∧Hid (wr.heap[ga]?=some (.cells #[.bool s1,.slice A1 k1 ca1,.slice B1 l1 cb1] 52 (0,0)))∧Hid (Nm wr (.agg #[.bool s1,.slice A1 k1 ca1,.slice B1 l1 cb1]) (co p i)))
    case atStart=>exact⟨0,ZZ (Nat.zero_add _),rfl,PW,EW4,RA4,NA0⟩
    case round=>
     obtain⟨j,HJ,rfl,HO2,HE2,RG,NA⟩:=hrel;rename World=>WI
     rcases Nat.eq_zero_or_pos gk with hz2|hz2
     ·subst hz2
      obtain rfl:j=n:=HJ.out;have q1n:decide ((j:Int)<(j:Int))=false:=decide_eq_false (Int.lt_irrefl _);go_wp2_with fail
      go_roundg (ko - 1)
      case measure=>have:=HZ.out;omega
      case rel=>exact⟨i+1,ZZ (by have:=HI.out;have:=HZ.out;omega),by have h1:=HLP.out;have h2:=HIP.out;rw [IntWalk.wrap64_in _ ⟨by omega,by omega⟩];rfl,ZZ (by rw [←acc_next p q i,HNN.out];exact HO2.out),HE2⟩
     ·have hjn:j<n:=by have:=HJ.out;omega
      have hjq:j<q.length:=by rw [HNN.out];exact hjn
      have q1n:decide ((j:Int)<(n:Int))=true:=decide_eq_true (by omega);have q1n':decide (j<n)=true:=decide_eq_true hjn;have q4n:(j:Int)<(n:Int):=by omega
      have q5n:(0:Int)≤(j:Int):=by omega
      have q6:IntKind.i64.wrap ((i:Int)+(j:Int))=(i:Int)+(j:Int):=by
       have h1:=HLP.out;have h2:=HLQ.out;have h3:=HIP.out;exact IntWalk.i64_in _ (by omega)
      have q7:(i:Int)+(j:Int)<(m:Int)+(n:Int):=by have h1:=HMM.out;have h2:=HIP.out;omega
      have q8:(0:Int)≤(i:Int)+(j:Int):=by omega
      have q9:((i:Int)+(j:Int)).toNat=i+j:=by omega
      rcases HCC.out with ⟨-,h5⟩|⟨b2,o2,rfl,ht2⟩
      ·rw [h5] at hjq;simp at hjq
      have hq2:q[j]?=some (co q j):=by unfold co;rw [List.getElem?_eq_getElem hjq];rfl
      obtain⟨s2,A2,k2,ca2,B2,l2,cb2,c0,c1,c2,hn2⟩:=(ht2 j _ hq2).mono HE2.out;have BQ2:=ZZ (HBQ.out (co q j) (List.mem_of_getElem? hq2));have BQ3:=ZZ (show Bq (p.length*(M+M+1)+1) (pcv (co p) (co q) i (i+j)) from (pcv_bq (bq_co HM0.out HBP.out) (bq_co HM0.out HBQ.out) i (i+j)).mono (Nat.add_le_add_right (Nat.mul_le_mul_right _ (Nat.le_of_lt HIP.out)) 1));have E6:=ZZ (ab WI (.cells #[.bool s2,.slice A2 k2 ca2,.slice B2 l2 cb2] 52));have N2:=ZZ (hn2.mono (ab WI (.cells #[.bool s2,.slice A2 k2 ca2,.slice B2 l2 cb2] 52)));have R7:=ZZ (heap_alloc_new WI (.cells #[.bool s2,.slice A2 k2 ca2,.slice B2 l2 cb2] 52));have HZ2:=ZZ hz2;have HJQ:=ZZ hjq;clear hn2 hq2 ht2 hz2 hjq
      go_upto_region 9 with (fail)
      generalize World.alloc WI (.cells #[.bool s2,.slice A2 k2 ca2,.slice B2 l2 cb2] _)=W6 at *;generalize WI.heap.size=g7 at *;have PO:=ZZ (show ∀W,Ext W6 W→PlO W g (.slice (some ⟨g,0,none⟩) (m+n) (m+n)) (accL p q i j) from fun W k=>HO2.out.mono (ak E6.out k));obtain⟨-,-,-,-,-,-,-,h4⟩:=PO.out W6 (ae _);obtain⟨s3,A3,k3,ca3,B3,l3,cb3,d0,d1,d2,hn3⟩:=h4 (i+j) _ (acc_at p q HIP.out HJQ.out);have N3:=ZZ hn3
      have HC:=ZZ (show ∀W,Ext W6 W→W.cell? ⟨g,(i+j)*3,none⟩=some (.bool s3)∧W.cell? ⟨g,(i+j)*3+1,none⟩=some (.slice A3 k3 ca3)∧W.cell? ⟨g,(i+j)*3+2,none⟩=some (.slice B3 l3 cb3)∧W.cell? ⟨ga,0,none⟩=some (.bool s1)∧W.cell? ⟨ga,1,none⟩=some (.slice A1 k1 ca1)∧W.cell? ⟨ga,2,none⟩=some (.slice B1 l1 cb1)∧W.cell? ⟨g7,0,none⟩=some (.bool s2)∧W.cell? ⟨g7,1,none⟩=some (.slice A2 k2 ca2)∧W.cell? ⟨g7,2,none⟩=some (.slice B2 l2 cb2) from fun W k=>by
       obtain⟨y0,y1,y2,-⟩:=ai ((k.block _ (lt_of_block R7.out)).trans R7.out);have kk:=ak E6.out k;obtain⟨x0,x1,x2,-⟩:=ai ((kk.block _ (lt_of_block RG.out)).trans RG.out);exact⟨ao k d0,ao k d1,ao k d2,x0,x1,x2,y0,y1,y2⟩)
      clear c0 c1 c2 d0 d1 d2 hn3 h4;have hun:undef=.tuple #[]:=rfl;have HK1:=HK;have HM1:=ZZ (show M≤1099511627776 from by have h1:=HMK.out;have h2:=HIP.out;have h3:=HK.out;have h4:=h1 (by omega);omega);refine wp_region_noPanic ?_;refine region_L (S:=fun W=>W.cell? ⟨g,(i+j)*3,none⟩=some (.bool s3)∧W.cell? ⟨g,(i+j)*3+1,none⟩=some (.slice A3 k3 ca3)∧W.cell? ⟨g,(i+j)*3+2,none⟩=some (.slice B3 l3 cb3)∧W.cell? ⟨ga,0,none⟩=some (.bool s1)∧W.cell? ⟨ga,1,none⟩=some (.slice A1 k1 ca1)∧W.cell? ⟨ga,2,none⟩=some (.slice B1 l1 cb1)∧W.cell? ⟨g7,0,none⟩=some (.bool s2)∧W.cell? ⟨g7,1,none⟩=some (.slice A2 k2 ca2)∧W.cell? ⟨g7,2,none⟩=some (.slice B2 l2 cb2)) 15 (by kernel_rfl) (HC.out _ (ac _)) (fun hHeld=>?_);refine take_b 0 33 ?_;refine take_b 1 34 ?_;refine take_b 2 35 ?_;refine take_b 3 36 ?_;refine take_b 4 37 ?_;refine take_b 5 38 ?_;refine take_b 6 39 ?_;refine take_b 7 40 ?_;refine take_b 8 41 ?_;refine take_b 9 42 ?_;refine take_b 10 43 ?_;refine take_b 11 44 ?_;refine call_L (i:=12) 45 rfl rfl (by kernel_rfl) (fun K hK=>?_)
      go_simp
      go_at_call 46
      refine(mul_q M HM1.out _ _ (co p i) (co q j) _ (NA.out.mono (ak E6.out (ac _))) (N2.out.mono (ac _)) BA.out BQ2.out).mono ?_;rintro e w4 ⟨v4,rfl,h4,kk4⟩;obtain⟨s4,A4,k4,ca4,B4,l4,cb4,rfl⟩:=h4.form2;have H4:=ZZ h4;have hx1:=ZZ (show Ext W6 w4 from ak (ac _) kk4);clear h4 kk4
      try go_wp2_with fail
      refine hK.out _ _ (HC.out _ hx1.out) (fun hHeld=>?_);clear hK K
      try simp only [Act.put,lyA,lyB,lyC]
      refine call_L (i:=13) 46 rfl rfl (by kernel_rfl) (fun K hK=>?_)
      go_simp
      go_at_call 45
      refine(add_q (p.length*(M+M+1)+1) HK.out _ _ (pcv (co p) (co q) i (i+j)) (co p i*co q j) _ (N3.out.mono hx1.out) H4.out BQ3.out ((BA.out.mul BQ2.out).mono (HMK.out (by have:=HIP.out;omega)))).mono ?_;rintro e w5 ⟨v5,rfl,h5,kk5⟩;obtain⟨s5,A5,k5,ca5,B5,l5,cb5,rfl⟩:=h5.form2;have H5:=ZZ h5;have hx2:=ZZ (ak hx1.out kk5);clear h5 kk5
      try go_wp2_with fail
      refine hK.out _ _ (HC.out _ hx2.out) (fun hHeld=>?_);clear hK K
      try simp only [Act.put,lyA,lyB,lyC]
      refine take_b 14 47 ?_;refine last_L rfl (by kernel_rfl) (by kernel_rfl) (fun K hK=>?_);have hp5:=PO.out w5 hx2.out;obtain⟨-,cur5,-,hh5,-⟩:=id hp5;have zf0:=frozen_row hh5 ((i+j)*3);have zf1:=frozen_row hh5 ((i+j)*3+1);have zf2:=frozen_row hh5 ((i+j)*3+2);obtain⟨z0,z1,z2,-⟩:=HC.out w5 hx2.out;clear hp5 hh5
      go_simp
      refine hK.out _ _ ?_;clear hK K
      try simp only [Act.put,lyA,lyB,lyC]
      refine NoPanic.normal ?_;have HP7:=ZZ (PlO.set (PO.out w5 hx2.out) (i:=i+j) (by rw [acc_len];have h1:=HIP.out;have h2:=HJQ.out;omega) H5.out);have E7:=ZZ (show Ext w (put3at w5 g ((i+j)*3) (.bool s5) (.slice A5 k5 ca5) (.slice B5 l5 cb5)) from by have hgw:w.heap.size≤g:=Nat.le_of_eq HG.out;exact(((ak HE2.out (ak E6.out hx2.out)).setCell hgw _).setCell hgw _).setCell hgw _);have PX:=PO.out w5 hx2.out
      have RG7:=ZZ (show (put3at w5 g ((i+j)*3) (.bool s5) (.slice A5 k5 ca5) (.slice B5 l5 cb5)).heap[ga]?=some (.cells #[.bool s1,.slice A1 k1 ca1,.slice B1 l1 cb1] 52 (0,0)) from by
       have kk:=ak E6.out hx2.out;have h1:=(kk.block _ (lt_of_block RG.out)).trans RG.out;unfold put3at;rw [Below.heap_setCell _ _ _ _ HGA.out,Below.heap_setCell _ _ _ _ HGA.out,Below.heap_setCell _ _ _ _ HGA.out];exact h1)
      have NA7:=ZZ (Nm.put3at (NA.out.mono (ak E6.out hx2.out)) PX (i:=i+j) (by rw [acc_len];have h1:=HIP.out;have h2:=HJQ.out;omega) (.bool s5) (.slice A5 k5 ca5) (.slice B5 l5 cb5));clear PX;go_wp2_with fail
      go_roundg (gk - 1)
      case measure=>have:=HZ2.out;omega
      case rel=>
       refine⟨j+1,ZZ (by have:=HJ.out;have:=HZ2.out;omega),by have h1:=HLQ.out;have h2:=HJQ.out;rw [IntWalk.wrap64_in _ ⟨by omega,by omega⟩];rfl,ZZ ?_,E7,RG7,NA7⟩;have h8:=HP7.out;rw [acc_set p q HIP.out HJQ.out] at h8;exact h8
end Go.Proofs.YtoefieefcndlkaaGreatDoor
