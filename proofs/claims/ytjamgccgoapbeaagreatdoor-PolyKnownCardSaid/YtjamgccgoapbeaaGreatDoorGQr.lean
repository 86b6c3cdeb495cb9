/- Products of polynomials, plain: what out holds after i rounds and j of the next. A range over a function whose rounds never leave: what is handed to a round holds in its world; what the iterator says in the end speaks of the last world. -/
import Derived.Test.YtjamgccgoapbeaaGreatDoorGVx
import Derived.RangeFuncNested
import Derived.RangeFuncBound
import Derived.RangeFuncLeaves
set_option linter.unusedVariables false
set_option maxRecDepth 100000
set_option maxHeartbeats 64000000
namespace Go.Proofs.YtjamgccgoapbeaaGreatDoor
def pcv (f g:Nat→Rat):Nat→Nat→Rat
 | 0,_=>0
 | i+1,k=>pcv f g i k+(if i≤k then f i*g (k - i) else 0)
theorem pcv_succ (f g:Nat→Rat) (i k:Nat):pcv f g (i+1) k=pcv f g i k+(if i≤k then f i*g (k - i) else 0):=rfl
theorem pcv_shift (f g:Nat→Rat) (i k:Nat):pcv f g (i+1) (k+1)=f 0*g (k+1)+pcv (fun j=>f (j+1)) g i k:=by
 induction i with
 | zero=>rw [pcv_succ,if_pos (Nat.zero_le _)];show 0+f 0*g (k+1)=f 0*g (k+1)+0;grind
 | succ i ih=>
  rw [pcv_succ,ih,pcv_succ (fun j=>f (j+1)),Nat.add_sub_add_right]
  by_cases h:i≤k
  ·rw [if_pos h,if_pos (by omega)];grind
  ·rw [if_neg h,if_neg (by omega)];grind
theorem pcv_more (f g:Nat→Rat) (k n:Nat):pcv f g (k+1+n) k=pcv f g (k+1) k:=by
 induction n with
 | zero=>rfl
 | succ n ih=>rw [show k+1+(n+1)=(k+1+n)+1 by omega,pcv_succ,if_neg (by omega),ih];grind
theorem pcv_zero {f:Nat→Rat} {m:Nat} (h:∀i,m≤i→f i=0) (g:Nat→Rat) (k n:Nat):pcv f g (m+n) k=pcv f g m k:=by
 induction n with
 | zero=>rfl
 | succ n ih=>
  rw [show m+(n+1)=(m+n)+1 by omega,pcv_succ,ih,h (m+n) (by omega)]
  split <;> grind
theorem cnv_pcv (f g:Nat→Rat) (k:Nat):cnv f g k=pcv f g (k+1) k:=by
 induction k generalizing f with
 | zero=>rw [pcv_succ,if_pos (Nat.le_refl _)];show f 0*g 0=0+f 0*g 0;grind
 | succ k ih=>rw [cnv_succ,ih,pcv_shift]
theorem pcv_all {f:Nat→Rat} {m:Nat} (h:∀i,m≤i→f i=0) (g:Nat→Rat) (k:Nat):pcv f g m k=cnv f g k:=by
 rw [cnv_pcv]
 rcases Nat.le_total m (k+1) with e|e
 ·obtain⟨n,hn⟩:∃n,k+1=m+n:=⟨k+1 - m,by omega⟩
  rw [hn,pcv_zero h]
 ·obtain⟨n,hn⟩:∃n,m=k+1+n:=⟨m - (k+1),by omega⟩
  rw [hn,pcv_more]
def accL (p q:List Rat) (i j:Nat):List Rat:=(List.range (p.length+q.length)).map fun k=>pcv (co p) (co q) i k+(if i≤k∧k<i+j then co p i*co q (k - i) else 0)
theorem acc_len (p q:List Rat) (i j:Nat):(accL p q i j).length=p.length+q.length:=by simp [accL]
theorem acc_get (p q:List Rat) (i j:Nat) {k:Nat} (hk:k<p.length+q.length):(accL p q i j)[k]?=some (pcv (co p) (co q) i k+(if i≤k∧k<i+j then co p i*co q (k - i) else 0)):=by
 unfold accL;rw [List.getElem?_map,List.getElem?_range hk];rfl
theorem acc_ext (p q:List Rat) (i j i' j':Nat) (h:∀k,pcv (co p) (co q) i k+(if i≤k∧k<i+j then co p i*co q (k - i) else 0)=pcv (co p) (co q) i' k+(if i'≤k∧k<i'+j' then co p i'*co q (k - i') else 0)):accL p q i j=accL p q i' j':=by
 unfold accL;exact List.map_congr_left fun k _=>h k
theorem acc_zero (p q:List Rat):accL p q 0 0=List.replicate (p.length+q.length) 0:=by
 apply List.ext_getElem?
 intro k
 rcases Nat.lt_or_ge k (p.length+q.length) with hk|hk
 ·rw [acc_get p q 0 0 hk,if_neg (by omega),List.getElem?_replicate,if_pos hk]
  show some ((0:Rat)+0)=some 0
  rw [Rat.add_zero]
 ·rw [List.getElem?_eq_none (by rw [acc_len];exact hk),List.getElem?_eq_none (by rw [List.length_replicate];exact hk)]
theorem acc_at (p q:List Rat) {i j:Nat} (hi:i<p.length) (hj:j<q.length):(accL p q i j)[i+j]?=some (pcv (co p) (co q) i (i+j)):=by
 rw [acc_get p q i j (by omega),if_neg (by omega),Rat.add_zero]
theorem acc_set (p q:List Rat) {i j:Nat} (hi:i<p.length) (hj:j<q.length):(accL p q i j).set (i+j) (pcv (co p) (co q) i (i+j)+co p i*co q j)=accL p q i (j+1):=by
 apply List.ext_getElem?
 intro k
 rcases Nat.lt_or_ge k (p.length+q.length) with hk|hk
 ·by_cases e:i+j=k
  ·subst e
   rw [List.getElem?_set_self (by rw [acc_len];exact hk),acc_get p q i (j+1) hk,if_pos (by omega),Nat.add_sub_cancel_left]
  ·rw [List.getElem?_set_ne e,acc_get p q i j hk,acc_get p q i (j+1) hk]
   by_cases h:i≤k∧k<i+j
   ·rw [if_pos h,if_pos (by omega)]
   ·rw [if_neg h,if_neg (by omega)]
 ·rw [List.getElem?_eq_none (by rw [List.length_set,acc_len];exact hk),List.getElem?_eq_none (by rw [acc_len];exact hk)]
theorem acc_next (p q:List Rat) (i:Nat):accL p q i q.length=accL p q (i+1) 0:=by
 refine acc_ext _ _ _ _ _ _ fun k=>?_;rw [pcv_succ,if_neg (c:=i+1≤k∧k<i+1+0) (by omega),Rat.add_zero]
 by_cases h:i≤k
 ·by_cases h2:k<i+q.length
  ·rw [if_pos ⟨h,h2⟩,if_pos h]
  ·rw [if_neg (by omega),if_pos h,co_ge (p:=q) (i:=k - i) (by omega)];grind
 ·rw [if_neg (by omega),if_neg h]
theorem acc_skip (p q:List Rat) (i:Nat) (h0:co p i=0):accL p q i 0=accL p q (i+1) 0:=by
 refine acc_ext _ _ _ _ _ _ fun k=>?_;rw [pcv_succ,if_neg (c:=i+1≤k∧k<i+1+0) (by omega),if_neg (c:=i≤k∧k<i+0) (by omega),h0]
 split <;> grind
def mulF (p q:List Rat):List Rat:=trimF (mulR p q)
theorem mulF_acc (p q:List Rat):trimF (accL p q p.length 0)=mulF p q:=trim_co fun k=>by
 rw [co_mulR]
 rcases Nat.lt_or_ge k (p.length+q.length) with hk|hk
 ·show ((accL p q p.length 0)[k]?).getD 0=_
  rw [acc_get p q _ 0 hk,if_neg (by omega),Rat.add_zero];exact pcv_all (fun i hi=>co_ge hi) _ _
 ·rw [co_ge (by rw [acc_len];exact hk),←pcv_all (m:=p.length) (fun i hi=>co_ge hi)]
  have h:∀n,n≤p.length→pcv (co p) (co q) n k=0:=by
   intro n
   induction n with
   | zero=>intro _;rfl
   | succ n ih=>
    intro hn;rw [pcv_succ,ih (by omega),co_ge (p:=q) (i:=k - n) (by omega)]
    split <;> grind
  exact(h _ (Nat.le_refl _)).symm
theorem bq_co {M:Nat} {p:List Rat} (hM:0<M) (h:∀x ∈ p,Bq M x) (i:Nat):Bq M (co p i):=by
 rcases Nat.lt_or_ge i p.length with hi|hi
 ·have e:p[i]?=some (co p i):=by unfold co;rw [List.getElem?_eq_getElem hi];rfl
  exact h _ (List.mem_of_getElem? e)
 ·rw [co_ge hi];exact bq_zero M hM
theorem pcv_bq {M:Nat} {f g:Nat→Rat} (hf:∀i,Bq M (f i)) (hg:∀i,Bq M (g i)) (i k:Nat):Bq (i*(M+M+1)+1) (pcv f g i k):=by
 induction i with
 | zero=>exact bq_zero _ (by omega)
 | succ i ih=>
  rw [pcv_succ]
  split
  ·exact(ih.add ((hf i).mul (hg (k - i)))).mono (by rw [Nat.succ_mul];omega)
  ·rw [Rat.add_zero];exact ih.mono (by rw [Nat.succ_mul];omega)
end Go.Proofs.YtjamgccgoapbeaaGreatDoor
set_option linter.unusedVariables false
set_option maxRecDepth 100000
set_option maxHeartbeats 64000000
namespace Go.Proofs.YtjamgccgoapbeaaGreatDoor
open Go Go.RowKit
theorem ext_grows {A B:World} (h:Ext A B):A.grownBy B none:=⟨h.os,h.tape,h.output,h.size,fun k hk _=>h.block k hk⟩
def KeepZ (Z:Nat→Obj→Prop) (A B:World):Prop:=A.heap.size≤B.heap.size∧∀k o,A.heap[k]?=some o→o.isCells=true→Z k o→B.heap[k]?=some o
theorem KeepZ.trans {Z:Nat→Obj→Prop} {A B C:World} (h:KeepZ Z A B) (k:KeepZ Z B C):KeepZ Z A C:=⟨Nat.le_trans h.1 k.1,fun i o hi ho hz=>k.2 i o (h.2 i o hi ho hz) ho hz⟩
theorem KeepZ.of_ext {Z:Nat→Obj→Prop} {A B:World} (h:Ext A B):KeepZ Z A B:=⟨h.size,fun i o hi _ _=>(h.block i (Array.getElem?_eq_some_iff.1 hi).1).trans hi⟩
theorem KeepZ.turn {Z:Nat→Obj→Prop} {A:World} {l:Nat} {o:Obj} (o':Obj) (h:A.heap[l]?=some o) (ho:o.isCells=false):KeepZ Z A (A.putObj l o'):=
 ⟨by simp,fun i u hi hu _=>by
  by_cases e:i=l
  ·subst e;rw [h] at hi;cases hi;rw [ho] at hu;cases hu
  ·exact(World.putObj_heap_other e).trans hi⟩
def SeqR {α:Type} (P:Program) (n:Nat) (g:Nat) (lb:Array Value) (encs:α→Array Value) (R:α→World→Prop) (Z:Nat→Obj→Prop) (S:List α→World→Prop) (N:Nat) (w:World):Prop:=
 ∀(l:Nat) (J:List α→World→Prop) (W:World),Ext w W→(∀pre A B,J pre A→Ext A B→J pre B)→(∀pre x W1,J pre W1→R x W1→pre.length<N→YieldAt Fence.wide (n - 1) P l (encs x) W1 fun e W'=>e=.returned (.bool true)∧J (pre ++ [x]) W'∧KeepZ Z W1 W')→J [] W→CallsIn Fence.wide n P g (#[.func (.yield l) #[] #[]] ++ lb) W fun e W'=>(∃v,e=.returned v)∧∃xs,S xs W'∧J xs W'
def lrec (fn:FuncId) (tmps:Array Value) (ps:Array Tmp) (assign body:Code) (B:Nat) (st:LoopState) (pe:Option Code):Loop:=
 { state:=st,pending:=pe,fn,tmps,params:=ps,assign,body,defers:=B }
theorem wpIn_rangeR {α:Type} {P:Program} {n:Nat} {g:Operand} {ps:Array Tmp} {assign body:Code} {Q:Exit→Act→World→Prop} {a:Act} {w w0:World} {gf:Nat} {lb:Array Value} (hg:a.eval g=.func (.func gf) #[] lb) (eg:∀args w,(callFunc gf args).run P w=.ok (.enter gf args) w) {encs:α→Array Value} {R:α→World→Prop} {Z:Nat→Obj→Prop} {S:List α→World→Prop} {N:Nat} (hseq:SeqR P (n - 1) gf lb encs R Z S N w0) (hw:Ext w0 w) (hps:∀x,(encs x).size=ps.size) (I:List α→World→Prop) (hI:OwnFrom w.heap.size I) (h0:I [] w) (Ax:α→Act→World→Prop) (hAx:∀x a',OwnFrom w.heap.size (fun (_:Unit) W=>Ax x a' W)) (hS:OwnFrom w.heap.size S) (hassign:∀(l:Nat) (pre:List α) (x:α) (W:World) (K:Act→World→Prop),I pre W→R x W→(∀a' W',Ext W W'→Ax x a' W'→K a' W')→assign.wpIn (Fence.wide.inRound l) (n - 1 - 1) P (Exit.then K (fun _ _ _=>False)) { tmps:=(ps.zip (encs x)).foldl (fun t (p,v)=>t.setIfInBounds p v) a.tmps,defers:=[] } W) (hbody:∀(l:Nat) (pre:List α) (x:α) (a':Act) (W:World),I pre W→Ax x a' W→pre.length<N→body.wpIn (Fence.wide.inRound l) (n - 1 - 1) P (fun e _ W'=>e=.normal∧KeepsFrom w.heap.size W W'∧KeepZ Z W W'∧I (pre ++ [x]) W') a' W) (hdone:∀(D:Nat) (xs:List α) (W:World),w.heap.size≤D→S xs W→I xs W→W.heap[D]?=some (.deferred (some []))→Q .normal { a with defers:={ target:=.collected D,args:=#[] } :: a.defers } W):(Code.rangeFunc g ps assign body).wpIn Fence.wide n P Q a w:=by
 refine wpIn_rangeFunc fun fn hfn=>?_;have size1:∀o:Obj,(w.alloc o).heap.size=w.heap.size+1:=fun o=>World.size_alloc w o;obtain⟨W1,hW1⟩:∃W1,W1=(w.alloc (.deferred (some []))).alloc (.loop (lrec fn a.tmps ps assign body w.heap.size .ready none)):=⟨_,rfl⟩;have x1:Ext w W1:=by rw [hW1];exact ak (ab _ _) (ab _ _)
 have hL:W1.heap[w.heap.size+1]?=some (.loop (lrec fn a.tmps ps assign body w.heap.size .ready none)):=by
  rw [hW1,←size1 (.deferred (some []))];exact World.alloc_heap_new _ _
 have hD:W1.heap[w.heap.size]?=some (.deferred (some [])):=by
  rw [hW1];exact((ab (w.alloc (.deferred (some []))) _).block _ (by rw [size1];omega)).trans (World.alloc_heap_new w _)
 have hI1:I [] W1:=hI _ _ _ _ h0 (ext_grows x1) (fun r e=>by cases e);refine⟨w.heap.size+1,[{ target:=.collected w.heap.size,args:=#[] }],W1,{ target:=.fn (.func gf) lb,args:=#[.func (.yield (w.heap.size+1)) #[] #[]] },W1,gf,#[.func (.yield (w.heap.size+1)) #[] #[]] ++ lb,W1,?_,?_,fun _ _=>trivial,?_,fun h=>(by cases h),?_⟩
 ·rw [hW1];exact run_enterLoop_outer _ _ _ _ _
 ·simp only [resolve,hg];simp [go_sem]
 ·simp [invoke,go_sem,eg]
 ·refine(hseq (w.heap.size+1) (fun pre W=>I pre W∧W.heap[w.heap.size+1]?=some (.loop (lrec fn a.tmps ps assign body w.heap.size .ready none))∧W.heap[w.heap.size]?=some (.deferred (some []))) W1 (ak hw x1) (fun pre A B h k=>⟨hI _ _ _ _ h.1 (ext_grows k) (fun r e=>by cases e),(k.block _ (Array.getElem?_eq_some_iff.1 h.2.1).1).trans h.2.1,(k.block _ (Array.getElem?_eq_some_iff.1 h.2.2).1).trans h.2.2⟩) ?_ ⟨hI1,hL,hD⟩).mono ?_
  ·rintro pre x W ⟨hi,hl,hk⟩ hr hlen
   refine⟨fn,_,assign,body,run_yield (args:=encs x) hl (hps x),roundIn_of_wpIn hfn (hassign _ pre x W _ hi hr fun a' Wa ka hax=>?_)⟩;have hia:I pre Wa:=hI _ _ _ _ hi (ext_grows ka) (fun r e=>by cases e);have hla:=(ka.block _ (Array.getElem?_eq_some_iff.1 hl).1).trans hl;have hka:=(ka.block _ (Array.getElem?_eq_some_iff.1 hk).1).trans hk;have hlt:w.heap.size+1<Wa.heap.size:=(Array.getElem?_eq_some_iff.1 hla).1;refine⟨_,run_beginRound hla rfl,?_⟩;generalize hWb:Wa.putObj (w.heap.size+1) _=Wb;have hgb:Wa.grownBy Wb (some (w.heap.size+1)):=by rw [←hWb];exact grownBy_putObj' _ _ _
   have hrow:∀r,some (w.heap.size+1)=some r→w.heap.size≤r∧∃o:Obj,Wa.heap[r]?=some o∧o.isCells=false:=fun r e=>by cases e;exact⟨by omega,_,hla,rfl⟩
   have hlb:Wb.heap[w.heap.size+1]?=some (.loop { lrec fn a.tmps ps assign body w.heap.size .ready none with state:=.busy }):=by rw [←hWb];exact World.putObj_heap_same hlt
   have hkb:Wb.heap[w.heap.size]?=some (.deferred (some [])):=by rw [←hWb];exact(World.putObj_heap_other (by omega)).trans hka
   have hzb:KeepZ Z W Wb:=(KeepZ.of_ext ka).trans (by rw [←hWb];exact KeepZ.turn _ hla rfl);refine wpIn_mono (hbody _ pre x a' Wb (hI _ _ _ _ hia hgb hrow) (hAx x a' () _ _ _ hax hgb hrow) hlen) ?_;rintro e a3 W3 ⟨rfl,hkf,hz,hi3⟩;have hl3:=hkf.same _ _ (by omega) hlb rfl;have hk3:=hkf.same _ _ (Nat.le_refl _) hkb rfl;refine⟨_,_,run_endRound none hl3,rfl,⟨hI _ _ _ _ hi3 (grownBy_putObj' _ _ _) (fun r e=>by cases e;exact⟨by omega,_,hl3,rfl⟩),?_,?_⟩,hzb.trans (hz.trans (KeepZ.turn _ hl3 rfl))⟩
   ·exact World.putObj_heap_same (Array.getElem?_eq_some_iff.1 hl3).1
   ·exact(World.putObj_heap_other (by omega)).trans hk3
  ·rintro e W2 ⟨⟨v,rfl⟩,xs,hs,hi,hl,hk⟩
   have hrow:∀r,some (w.heap.size+1)=some r→w.heap.size≤r∧∃o:Obj,W2.heap[r]?=some o∧o.isCells=false:=fun r e=>by cases e;exact⟨by omega,_,hl,rfl⟩
   refine⟨none,_,run_endLoop hl (by simp [lrec]),hdone _ xs _ (Nat.le_refl _) (hS _ _ _ _ hs (grownBy_putObj' _ _ _) hrow) (hI _ _ _ _ hi (grownBy_putObj' _ _ _) hrow) ?_⟩;exact(World.putObj_heap_other (by omega)).trans hk
end Go.Proofs.YtjamgccgoapbeaaGreatDoor
