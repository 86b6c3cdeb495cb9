/- Lists of polynomials; which degree is too great; what is asked. A range over a function whose rounds never leave: what is handed to a round holds in its world; what the iterator says in the end speaks of the last world. slices.Backward at numbers: the iterator. -/
import Derived.Test.YtaaoleakkaloeaaGreatDoorGRd
import Derived.Test.YtaaoleakkaloeaaGreatDoorGTa
import Derived.RangeFuncNested
import Derived.RangeFuncBound
import Derived.RangeFuncLeaves
import Derived.Shelf.Abstract
import Derived.WalkKit
import Derived.OwnWalkIn
import Derived.TacticsInMore
import Derived.LoopNIn
import Derived.LoopIn
set_option linter.unusedVariables false
set_option maxRecDepth 100000
set_option maxHeartbeats 64000000
namespace Go.Proofs.YtaaoleakkaloeaaGreatDoor
open Go.RowKit
set_option linter.unusedSimpArgs false
def PlL (w:World) (v:Value) (ls:List (List Rat)):Prop:=∃A cap,v=.slice A ls.length cap∧ls.length≤cap∧((A=none∧ls=[])∨∃b o,A=some ⟨b,o,none⟩∧∀i l,ls[i]?=some l→∃u,w.cell? ⟨b,o+i,none⟩=some u∧Pl w u l)
theorem PlL.mono {w w':World} {v:Value} {ls:List (List Rat)} (h:PlL w v ls) (k:Ext w w'):PlL w' v ls:=by
 obtain⟨A,cap,e,hc,hA⟩:=h;refine⟨A,cap,e,hc,?_⟩
 rcases hA with h|⟨b,o,e1,h⟩
 ·exact .inl h
 ·exact .inr ⟨b,o,e1,fun i l hl=>by obtain⟨u,h1,h2⟩:=h i l hl;exact⟨u,am k h1,h2.mono k⟩⟩
theorem pll_one {w:World} {u:Value} {l:List Rat} (h:Pl w u l):PlL (w.alloc (.cells #[u] 25)) (.slice (some ⟨w.heap.size,0,none⟩) 1 1) [l]:=by
 have hr:=heap_alloc_new w (.cells #[u] 25);refine⟨_,1,rfl,Nat.le_refl _,.inr ⟨_,0,rfl,fun i q hq=>?_⟩⟩
 match i,hq with
 | 0,hq=>obtain rfl:l=q:=Option.some.inj hq;exact⟨u,by rw [cell_of_row _ _ _ _ _ _ hr];rfl,h.mono (ab _ _)⟩
def bigF (l:List Rat):Bool:=decide (41<(trimF l).length)
theorem long1_p (v:Value) (l:List Rat) (hl:l.length≤1000000) (w:World) (h:Pl w v l) (b:Bool) (hb:bigF l=b):Calls Tryz.prog 96 #[v] w fun e w'=>e=.returned (.bool b)∧Ext w w':=by
 have HP:=ZZ h;have HL:=ZZ hl;obtain⟨n,hn⟩:∃n:Int,((trimF l).length:Int) - 1=n:=⟨_,rfl⟩;have HN:=ZZ hn
 have q1:decide ((40:Int)<n)=b:=by
  rw [←hb,←hn];unfold bigF
  by_cases h:41<(trimF l).length
  ·rw [decide_eq_true h,decide_eq_true (by omega)]
  ·rw [decide_eq_false h,decide_eq_false (by omega)]
 clear h hl hb hn
 go_enter Tryz.func96,Tryz.ntmps96
 go_wp2_with fail;refine(deg_q _ l HL.out _ HP.out).mono ?_
 rintro e w3 ⟨rfl,k3⟩;rw [HN.out];have K3:=ZZ k3;clear k3;go_wp2_with fail;go_ret;exact⟨rfl,K3.out⟩
theorem index_p (v:Value) (ls:List (List Rat)) (hn:ls.length≤1000000) (hl:∀l ∈ ls,l.length≤1000000) (w:World) (h:PlL w v ls):Calls Tryz.prog 124 #[v,.func (.func 96) #[] #[]] w fun e w'=>∃z:Int,e=.returned (.int .i64 z)∧decide (0≤z)=ls.any bigF∧Ext w w':=by
 obtain⟨A,cap,rfl,-,hA⟩:=h;obtain⟨n,hm⟩:∃n,ls.length=n:=⟨_,rfl⟩;rw [hm];have HM:=ZZ hm;have HN:=ZZ hn;have HL:=ZZ hl;have HA:=ZZ hA;clear hm hn hl hA
 go_enter Tryz.func124,Tryz.ntmps124
 go_wp2_with fail
 go_loopg [8] n (fun k i wr=>∃j,Hid (j+k=n)∧i=.int .i64 (j:Int)∧Hid ((ls.take j).any bigF=false)∧Hid (Ext w wr))
 case atStart=>exact⟨0,ZZ (Nat.zero_add _),rfl,ZZ rfl,ZZ (ae _)⟩
 case round=>
  obtain⟨j,HJ,rfl,HF,HE⟩:=hrel;rename World=>WR
  rcases Nat.eq_zero_or_pos gk with hz|hz
  ·subst hz
   obtain rfl:j=n:=HJ.out;have q1:decide ((j:Int)<(j:Int))=false:=decide_eq_false (Int.lt_irrefl _);go_wp2_with fail;go_ret;refine⟨-1,rfl,?_,HE.out⟩;have h:=HF.out;rw [List.take_of_length_le (Nat.le_of_eq HM.out)] at h;rw [h];rfl
  ·have hjn:j<n:=by have:=HJ.out;omega
   have hjl:j<ls.length:=by rw [HM.out];exact hjn
   have q1:decide ((j:Int)<(n:Int))=true:=decide_eq_true (by omega);have q1':decide (j<n)=true:=decide_eq_true hjn;have q4:(j:Int)<(n:Int):=by omega
   have q5:(0:Int)≤(j:Int):=by omega
   rcases HA.out with ⟨-,h5⟩|⟨b,o,rfl,ht⟩
   ·rw [h5] at hjl;simp at hjl
   obtain⟨l,hl⟩:∃l,ls[j]?=some l:=⟨ls[j]'hjl,List.getElem?_eq_getElem _⟩;obtain⟨u,c0,hu⟩:=ht j l hl;obtain⟨Au,ku,cu,eu⟩:∃A k c,u=.slice A k c:=by obtain⟨A,c,e,-⟩:=hu;exact⟨_,_,_,e⟩
   subst eu
   replace c0:=am HE.out c0
   obtain⟨bb,hbb⟩:∃b,bigF l=b:=⟨_,rfl⟩;have HU:=ZZ (hu.mono HE.out);have HBB:=ZZ hbb;have HLL:=ZZ hl;have HZ:=ZZ hz;have HJN:=ZZ hjn;have LL:=ZZ (HL.out l (List.mem_of_getElem? hl));clear hu hbb hl hz hjl ht;go_wp2_with fail;refine(long1_p _ l LL.out _ HU.out bb HBB.out).mono ?_;rintro e w5 ⟨rfl,k5⟩;have K5:=ZZ (ak HE.out k5);clear k5 c0
   cases bb with
   | true=>
    go_wp2_with fail;go_ret
    refine⟨(j:Int),rfl,?_,K5.out⟩;rw [decide_eq_true (by omega:(0:Int)≤(j:Int))];exact(List.any_eq_true.2 ⟨l,List.mem_of_getElem? HLL.out,HBB.out⟩).symm
   | false=>
    go_wp2_with fail
    go_roundg (gk - 1)
    case measure=>have:=HZ.out;omega
    case rel=>exact⟨j+1,ZZ (by have:=HJ.out;have:=HZ.out;omega),by have h1:=HN.out;have h2:=HM.out;have h3:=HJN.out;rw [IntWalk.wrap64_in _ ⟨by omega,by omega⟩];rfl,ZZ (by rw [List.take_add_one,HLL.out,List.any_append,HF.out];simp [HBB.out]),K5⟩
theorem contains_p (v:Value) (ls:List (List Rat)) (hn:ls.length≤1000000) (hl:∀l ∈ ls,l.length≤1000000) (w:World) (h:PlL w v ls) (b:Bool) (hb:ls.any bigF=b):Calls Tryz.prog 95 #[v,.func (.func 96) #[] #[]] w fun e w'=>e=.returned (.bool b)∧Ext w w':=by
 have HP:=ZZ h;have HN:=ZZ hn;have HL:=ZZ hl;have HB:=ZZ hb;obtain⟨A,k,c,e⟩:∃A k c,v=.slice A k c:=by obtain⟨A,c,e,-⟩:=h;exact⟨_,_,_,e⟩
 subst e;clear h hn hl hb
 go_enter Tryz.func95,Tryz.ntmps95
 go_wp2_with fail;refine(index_p _ ls HN.out HL.out _ HP.out).mono ?_
 rintro e w3 ⟨z,rfl,hz,k3⟩;rw [HB.out] at hz;have K3:=ZZ k3;clear k3;go_wp2_with fail;go_ret;exact⟨rfl,K3.out⟩
theorem long_p (v:Value) (ls:List (List Rat)) (hn:ls.length≤1000000) (hl:∀l ∈ ls,l.length≤1000000) (w:World) (h:PlL w v ls) (b:Bool) (hb:ls.any bigF=b):Calls Tryz.prog 52 #[v] w fun e w'=>e=.returned (.bool b)∧Ext w w':=by
 have HP:=ZZ h;have HN:=ZZ hn;have HL:=ZZ hl;have HB:=ZZ hb;obtain⟨A,k,c,e⟩:∃A k c,v=.slice A k c:=by obtain⟨A,c,e,-⟩:=h;exact⟨_,_,_,e⟩
 subst e;clear h hn hl hb
 go_enter Tryz.func52,Tryz.ntmps52
 go_wp2_with fail;refine(contains_p _ ls HN.out HL.out _ HP.out b HB.out).mono ?_
 rintro e w3 ⟨rfl,k3⟩;have K3:=ZZ k3;clear k3;go_wp2_with fail;go_ret;exact⟨rfl,K3.out⟩
def askF (p:List Rat):Int:=if bigF p then 3 else if trimF p=[] then 8 else 0
theorem asked_p (v:Value) (p:List Rat) (hl:p.length≤1000000) (w:World) (h:Pl w v p) (z:Int) (hz:askF p=z):Calls Tryz.prog 31 #[v] w fun e w'=>e=.returned (.int .i64 z)∧Ext w w':=by
 have HP:=ZZ h;have HL:=ZZ hl;obtain⟨A,k,c,e⟩:∃A k c,v=.slice A k c:=by obtain⟨A,c,e,-⟩:=h;exact⟨_,_,_,e⟩
 subst e;obtain⟨b,hb⟩:∃b,bigF p=b:=⟨_,rfl⟩;have HB:=ZZ (show [p].any bigF=b by rw [←hb];simp);have HL1:=ZZ (pll_one h);have HZ:=ZZ hz;have HB0:=ZZ hb;clear h hl hz hb
 go_enter Tryz.func31,Tryz.ntmps31
 go_wp2_with fail;refine(long_p _ [p] (by simp) (fun l hl'=>by rw [List.mem_singleton.1 hl'];exact HL.out) _ HL1.out b HB.out).mono ?_
 rintro e w3 ⟨rfl,k3⟩;have K3:=ZZ (ak (ab _ _) k3);clear k3
 cases b with
 | true=>
  obtain rfl:3=z:=by rw [←HZ.out];unfold askF;rw [HB0.out];rfl
  go_wp2_with fail;go_ret
  exact⟨rfl,K3.out⟩
 | false=>
  go_wp2_with fail;refine(deg_q _ p HL.out _ (HP.out.mono K3.out)).mono ?_
  rintro e w4 ⟨rfl,k4⟩;have K4:=ZZ (ak K3.out k4);clear k4;obtain⟨n,hn⟩:∃n,(trimF p).length=n:=⟨_,rfl⟩;rw [hn]
  rcases Nat.eq_zero_or_pos n with h0|h0
  ·obtain rfl:8=z:=by
    rw [←HZ.out];unfold askF;rw [HB0.out,if_neg (by decide),if_pos (List.length_eq_zero_iff.1 (hn.trans h0))]
   subst h0;clear hn;have q1:decide (((0:Nat):Int) - 1<0)=true:=rfl;have q2:((0:Nat):Int) - 1 = -1:=rfl;rw [q2];go_wp2_with fail;go_ret;exact⟨rfl,K4.out⟩
  ·obtain rfl:0=z:=by
    rw [←HZ.out];unfold askF;rw [HB0.out,if_neg (by decide),if_neg (fun e=>by rw [e] at hn;simp at hn;omega)]
   clear hn;have q1:decide ((n:Int) - 1<0)=false:=decide_eq_false (by omega);have q1':decide ((n:Int)<1)=false:=decide_eq_false (by omega);go_wp2_with fail;go_ret;exact⟨rfl,K4.out⟩
end Go.Proofs.YtaaoleakkaloeaaGreatDoor
set_option linter.unusedVariables false
set_option maxRecDepth 100000
set_option maxHeartbeats 64000000
namespace Go.Proofs.YtaaoleakkaloeaaGreatDoor
open Go Go.RowKit
theorem ext_grows {A B:World} (h:Ext A B):A.grownBy B none:=⟨h.os,h.tape,h.output,h.size,fun k hk _=>h.block k hk⟩
def KeepZ (Z:Nat→Obj→Prop) (A B:World):Prop:=A.heap.size≤B.heap.size∧∀k o,A.heap[k]?=some o→o.isCells=true→Z k o→B.heap[k]?=some o
theorem KeepZ.trans {Z:Nat→Obj→Prop} {A B C:World} (h:KeepZ Z A B) (k:KeepZ Z B C):KeepZ Z A C:=⟨Nat.le_trans h.1 k.1,fun i o hi ho hz=>k.2 i o (h.2 i o hi ho hz) ho hz⟩
theorem KeepZ.of_ext {Z:Nat→Obj→Prop} {A B:World} (h:Ext A B):KeepZ Z A B:=⟨h.size,fun i o hi _ _=>(h.block i (Array.getElem?_eq_some_iff.1 hi).1).trans hi⟩
theorem KeepZ.turn {Z:Nat→Obj→Prop} {A:World} {l:Nat} {o:Obj} (o':Obj) (h:A.heap[l]?=some o) (ho:o.isCells=false):KeepZ Z A (A.putObj l o'):=
 ⟨by simp,fun i u hi hu _=>by
  by_cases e:i=l
  ·subst e;rw [h] at hi;cases hi;rw [ho] at hu;cases hu
  ·exact(World.putObj_heap_other e).trans hi⟩
def SeqR {α:Type} (P:Program) (n:Nat) (g:Nat) (lb:Array Value) (encs:α→Array Value) (R:α→World→Prop) (Z:Nat→Obj→Prop) (S:List α→World→Prop) (N:Nat) (w:World):Prop:=
 ∀(l:Nat) (J:List α→World→Prop) (W:World),Ext w W→(∀pre A B,J pre A→Ext A B→J pre B)→(∀pre x W1,J pre W1→R x W1→pre.length<N→YieldAt Fence.wide (n - 1) P l (encs x) W1 fun e W'=>e=.returned (.bool true)∧J (pre ++ [x]) W'∧KeepZ Z W1 W')→J [] W→CallsIn Fence.wide n P g (#[.func (.yield l) #[] #[]] ++ lb) W fun e W'=>(∃v,e=.returned v)∧∃xs,S xs W'∧J xs W'
def lrec (fn:FuncId) (tmps:Array Value) (ps:Array Tmp) (assign body:Code) (B:Nat) (st:LoopState) (pe:Option Code):Loop:=
 { state:=st,pending:=pe,fn,tmps,params:=ps,assign,body,defers:=B }
theorem wpIn_rangeR {α:Type} {P:Program} {n:Nat} {g:Operand} {ps:Array Tmp} {assign body:Code} {Q:Exit→Act→World→Prop} {a:Act} {w w0:World} {gf:Nat} {lb:Array Value} (hg:a.eval g=.func (.func gf) #[] lb) (eg:∀args w,(callFunc gf args).run P w=.ok (.enter gf args) w) {encs:α→Array Value} {R:α→World→Prop} {Z:Nat→Obj→Prop} {S:List α→World→Prop} {N:Nat} (hseq:SeqR P (n - 1) gf lb encs R Z S N w0) (hw:Ext w0 w) (hps:∀x,(encs x).size=ps.size) (I:List α→World→Prop) (hI:OwnFrom w.heap.size I) (h0:I [] w) (Ax:α→Act→World→Prop) (hAx:∀x a',OwnFrom w.heap.size (fun (_:Unit) W=>Ax x a' W)) (hS:OwnFrom w.heap.size S) (hassign:∀(l:Nat) (pre:List α) (x:α) (W:World) (K:Act→World→Prop),I pre W→R x W→(∀a' W',Ext W W'→Ax x a' W'→K a' W')→assign.wpIn (Fence.wide.inRound l) (n - 1 - 1) P (Exit.then K (fun _ _ _=>False)) { tmps:=(ps.zip (encs x)).foldl (fun t (p,v)=>t.setIfInBounds p v) a.tmps,defers:=[] } W) (hbody:∀(l:Nat) (pre:List α) (x:α) (a':Act) (W:World),I pre W→Ax x a' W→pre.length<N→body.wpIn (Fence.wide.inRound l) (n - 1 - 1) P (fun e _ W'=>e=.normal∧KeepsFrom w.heap.size W W'∧KeepZ Z W W'∧I (pre ++ [x]) W') a' W) (hdone:∀(D:Nat) (xs:List α) (W:World),w.heap.size≤D→S xs W→I xs W→W.heap[D]?=some (.deferred (some []))→Q .normal { a with defers:={ target:=.collected D,args:=#[] } :: a.defers } W):(Code.rangeFunc g ps assign body).wpIn Fence.wide n P Q a w:=by
 refine wpIn_rangeFunc fun fn hfn=>?_;have size1:∀o:Obj,(w.alloc o).heap.size=w.heap.size+1:=fun o=>World.size_alloc w o;obtain⟨W1,hW1⟩:∃W1,W1=(w.alloc (.deferred (some []))).alloc (.loop (lrec fn a.tmps ps assign body w.heap.size .ready none)):=⟨_,rfl⟩;have x1:Ext w W1:=by rw [hW1];exact ak (ab _ _) (ab _ _)
 have hL:W1.heap[w.heap.size+1]?=some (.loop (lrec fn a.tmps ps assign body w.heap.size .ready none)):=by
  rw [hW1,←size1 (.deferred (some []))];exact World.alloc_heap_new _ _
 have hD:W1.heap[w.heap.size]?=some (.deferred (some [])):=by
  rw [hW1];exact((ab (w.alloc (.deferred (some []))) _).block _ (by rw [size1];omega)).trans (World.alloc_heap_new w _)
 have hI1:I [] W1:=hI _ _ _ _ h0 (ext_grows x1) (fun r e=>by cases e);refine⟨w.heap.size+1,[{ target:=.collected w.heap.size,args:=#[] }],W1,{ target:=.fn (.func gf) lb,args:=#[.func (.yield (w.heap.size+1)) #[] #[]] },W1,gf,#[.func (.yield (w.heap.size+1)) #[] #[]] ++ lb,W1,?_,?_,fun _ _=>trivial,?_,fun h=>(by cases h),?_⟩
 ·rw [hW1];exact run_enterLoop_outer _ _ _ _ _
 ·simp only [resolve,hg];simp [go_sem]
 ·simp [invoke,go_sem,eg]
 ·refine(hseq (w.heap.size+1) (fun pre W=>I pre W∧W.heap[w.heap.size+1]?=some (.loop (lrec fn a.tmps ps assign body w.heap.size .ready none))∧W.heap[w.heap.size]?=some (.deferred (some []))) W1 (ak hw x1) (fun pre A B h k=>⟨hI _ _ _ _ h.1 (ext_grows k) (fun r e=>by cases e),(k.block _ (Array.getElem?_eq_some_iff.1 h.2.1).1).trans h.2.1,(k.block _ (Array.getElem?_eq_some_iff.1 h.2.2).1).trans h.2.2⟩) ?_ ⟨hI1,hL,hD⟩).mono ?_
  ·rintro pre x W ⟨hi,hl,hk⟩ hr hlen
   refine⟨fn,_,assign,body,run_yield (args:=encs x) hl (hps x),roundIn_of_wpIn hfn (hassign _ pre x W _ hi hr fun a' Wa ka hax=>?_)⟩;have hia:I pre Wa:=hI _ _ _ _ hi (ext_grows ka) (fun r e=>by cases e);have hla:=(ka.block _ (Array.getElem?_eq_some_iff.1 hl).1).trans hl;have hka:=(ka.block _ (Array.getElem?_eq_some_iff.1 hk).1).trans hk;have hlt:w.heap.size+1<Wa.heap.size:=(Array.getElem?_eq_some_iff.1 hla).1;refine⟨_,run_beginRound hla rfl,?_⟩;generalize hWb:Wa.putObj (w.heap.size+1) _=Wb;have hgb:Wa.grownBy Wb (some (w.heap.size+1)):=by rw [←hWb];exact grownBy_putObj' _ _ _
   have hrow:∀r,some (w.heap.size+1)=some r→w.heap.size≤r∧∃o:Obj,Wa.heap[r]?=some o∧o.isCells=false:=fun r e=>by cases e;exact⟨by omega,_,hla,rfl⟩
   have hlb:Wb.heap[w.heap.size+1]?=some (.loop { lrec fn a.tmps ps assign body w.heap.size .ready none with state:=.busy }):=by rw [←hWb];exact World.putObj_heap_same hlt
   have hkb:Wb.heap[w.heap.size]?=some (.deferred (some [])):=by rw [←hWb];exact(World.putObj_heap_other (by omega)).trans hka
   have hzb:KeepZ Z W Wb:=(KeepZ.of_ext ka).trans (by rw [←hWb];exact KeepZ.turn _ hla rfl);refine wpIn_mono (hbody _ pre x a' Wb (hI _ _ _ _ hia hgb hrow) (hAx x a' () _ _ _ hax hgb hrow) hlen) ?_;rintro e a3 W3 ⟨rfl,hkf,hz,hi3⟩;have hl3:=hkf.same _ _ (by omega) hlb rfl;have hk3:=hkf.same _ _ (Nat.le_refl _) hkb rfl;refine⟨_,_,run_endRound none hl3,rfl,⟨hI _ _ _ _ hi3 (grownBy_putObj' _ _ _) (fun r e=>by cases e;exact⟨by omega,_,hl3,rfl⟩),?_,?_⟩,hzb.trans (hz.trans (KeepZ.turn _ hl3 rfl))⟩
   ·exact World.putObj_heap_same (Array.getElem?_eq_some_iff.1 hl3).1
   ·exact(World.putObj_heap_other (by omega)).trans hk3
  ·rintro e W2 ⟨⟨v,rfl⟩,xs,hs,hi,hl,hk⟩
   have hrow:∀r,some (w.heap.size+1)=some r→w.heap.size≤r∧∃o:Obj,W2.heap[r]?=some o∧o.isCells=false:=fun r e=>by cases e;exact⟨by omega,_,hl,rfl⟩
   refine⟨none,_,run_endLoop hl (by simp [lrec]),hdone _ xs _ (Nat.le_refl _) (hS _ _ _ _ hs (grownBy_putObj' _ _ _) hrow) (hI _ _ _ _ hi (grownBy_putObj' _ _ _) hrow) ?_⟩;exact(World.putObj_heap_other (by omega)).trans hk
end Go.Proofs.YtaaoleakkaloeaaGreatDoor
set_option linter.unusedVariables false
set_option maxRecDepth 100000
set_option maxHeartbeats 64000000
namespace Go.Proofs.YtaaoleakkaloeaaGreatDoor
open Go Go.RowKit Go.Shelf
attribute [local go_sem] Oper.semAt_some
theorem cell_block {W:World} {a:Addr} {v:Value} (h:W.cell? a=some v):∃o,W.heap[a.block]?=some o∧o.isCells=true:=by
 unfold World.cell? at h
 cases ho:W.heap[a.block]? with
 | none=>simp [ho] at h
 | some o=>exact⟨o,rfl,by cases o <;> simp_all [Obj.isCells]⟩
def Cb (W W':World):Prop:=∀(b j:Nat) (v:Value),W.cell? ⟨b,j,none⟩=some v→W'.cell? ⟨b,j,none⟩=some v
theorem Cb.of_ext {W W':World} (h:Ext W W'):Cb W W':=fun b j v hc=>am h hc
theorem Cb.trans {A B C:World} (h:Cb A B) (k:Cb B C):Cb A C:=fun b j v hc=>k b j v (h b j v hc)
theorem Cb.step {w A B:World} {Z:Nat→Obj→Prop} (h:Cb w A) (k:KeepZ Z A B) (hz:∀i o,i<w.heap.size→A.heap[i]?=some o→Z i o):Cb w B:=fun b j v hc=>by
 have hA:=h b j v hc;obtain⟨o,ho,hoc⟩:=cell_block hA;obtain⟨o',ho',-⟩:=cell_block hc;have hlt:b<w.heap.size:=(Array.getElem?_eq_some_iff.1 ho').1;exact(World.cell?_of_block (a:=⟨b,j,none⟩) ((k.2 _ o ho hoc (hz _ o hlt ho)).trans ho.symm)).trans hA
theorem Wd.cb {W W':World} {v:Value} {n:Nat} (h:Wd W v n) (k:Cb W W'):Wd W' v n:=by
 obtain⟨A,cc,e,hc,hcl⟩:=h;refine⟨A,cc,e,hc,?_⟩
 rcases Nat.eq_zero_or_pos (dg n).length with h0|h0
 ·left;rw [List.length_eq_zero_iff.1 h0];rfl
 ·obtain⟨bl,o,hA,hce⟩:=hcl.at_ (by simpa using h0)
  right
  exact⟨bl,o,hA,fun j hj=>k _ _ _ (hce j hj)⟩
theorem Nm.cb {W W':World} {v:Value} {q:Rat} (h:Nm W v q) (k:Cb W W'):Nm W' v q:=by
 obtain⟨vn,vd,e,h1,h2⟩:=h;exact⟨vn,vd,e,h1.cb k,h2.cb k⟩
theorem Tri.cb {W W':World} {b j:Nat} {q:Rat} (h:Tri W b j q) (k:Cb W W'):Tri W' b j q:=by
 obtain⟨s,A,m,ca,B,n,cb,h1,h2,h3,h4⟩:=h;exact⟨s,A,m,ca,B,n,cb,k _ _ _ h1,k _ _ _ h2,k _ _ _ h3,h4.cb k⟩
def Cx (g:Nat) (W W':World):Prop:=∀(b j:Nat) (v:Value),b≠g→W.cell? ⟨b,j,none⟩=some v→W'.cell? ⟨b,j,none⟩=some v
def NoD (W:World) (g:Nat):Prop:=∀(j:Nat) (z:Int),W.cell? ⟨g,j,none⟩≠some (.int .u64 z)
theorem Cx.of_ext {g:Nat} {W W':World} (h:Ext W W'):Cx g W W':=fun b j v _ hc=>am h hc
theorem Cx.step {g:Nat} {w A B:World} {Z:Nat→Obj→Prop} (h:Cx g w A) (k:KeepZ Z A B) (hz:∀i o,i<w.heap.size→i≠g→A.heap[i]?=some o→Z i o):Cx g w B:=fun b j v hne hc=>by
 have hA:=h b j v hne hc;obtain⟨o,ho,hoc⟩:=cell_block hA;obtain⟨o',ho',-⟩:=cell_block hc;have hlt:b<w.heap.size:=(Array.getElem?_eq_some_iff.1 ho').1;exact(World.cell?_of_block (a:=⟨b,j,none⟩) ((k.2 _ o ho hoc (hz _ o hlt hne ho)).trans ho.symm)).trans hA
theorem Wd.cx {g:Nat} {W W':World} {v:Value} {n:Nat} (h:Wd W v n) (k:Cx g W W') (hu:NoD W g):Wd W' v n:=by
 obtain⟨A,cc,e,hc,hcl⟩:=h;refine⟨A,cc,e,hc,?_⟩
 rcases Nat.eq_zero_or_pos (dg n).length with h0|h0
 ·left;rw [List.length_eq_zero_iff.1 h0];rfl
 ·obtain⟨bl,o,hA,hce⟩:=hcl.at_ (by simpa using h0)
  right
  refine⟨bl,o,hA,fun j hj=>k _ _ _ (fun hb=>?_) (hce j hj)⟩;have hj':j<(dg n).length:=by simpa using hj
  have h1:=hce j hj;rw [getD_map_u64 _ _ hj',hb] at h1;exact hu _ _ h1
theorem Nm.cx {g:Nat} {W W':World} {v:Value} {q:Rat} (h:Nm W v q) (k:Cx g W W') (hu:NoD W g):Nm W' v q:=by
 obtain⟨vn,vd,e,h1,h2⟩:=h;exact⟨vn,vd,e,h1.cx k hu,h2.cx k hu⟩
theorem Tri.cx {g:Nat} {W W':World} {b j:Nat} {q:Rat} (h:Tri W b j q) (k:Cx g W W') (hu:NoD W g) (hb:b≠g):Tri W' b j q:=by
 obtain⟨s,A,m,ca,B,n,cb,h1,h2,h3,h4⟩:=h;exact⟨s,A,m,ca,B,n,cb,k _ _ _ hb h1,k _ _ _ hb h2,k _ _ _ hb h3,h4.cx k hu⟩
def encB (x:Nat × Value × Rat):Array Value:=#[.int .i64 (x.1:Int),x.2.1]
def GotB (L:List Rat) (x:Nat × Value × Rat) (W:World):Prop:=Nm W x.2.1 x.2.2∧x.2.2 ∈ L
theorem drop_rev {L:List Rat} {j:Nat} {q:Rat} (h:L[j]?=some q):(L.drop (j+1)).reverse ++ [q]=(L.drop j).reverse:=by
 obtain⟨hj,rfl⟩:=List.getElem?_eq_some_iff.1 h;rw [List.drop_eq_getElem_cons hj,List.reverse_cons]
theorem back_in (g0:Nat) (n:Nat) (hn:1≤n) (l Bs b o cap:Nat) (L:List Rat) (hl:L.length≤1000000) (hcap:L.length≤cap) (w0:World) (hu0:NoD w0 g0) (hb0:b≠g0) (ht:∀i q,L[i]?=some q→Tri w0 b (o+i*3) q) (J:List (Nat × Value × Rat)→World→Prop) (hY:∀pre x W1,J pre W1→GotB L x W1→pre.length<L.length→YieldAt Fence.wide (n - 1) Tryz.prog l (encB x) W1 fun e W'=>e=.returned (.bool true)∧J (pre ++ [x]) W'∧KeepZ (fun k _=>(k<w0.heap.size∧k≠g0)∨k=Bs) W1 W') (W:World) (hcb:Cx g0 w0 W) (hBs:W.cell? ⟨Bs,0,none⟩=some (.slice (some ⟨b,o,none⟩) L.length cap)) (h0:J [] W):CallsIn Fence.wide n Tryz.prog 92 #[.func (.yield l) #[] #[],.pointer (some ⟨Bs,0,none⟩)] W fun e W'=>(∃v,e=.returned v)∧∃xs:List (Nat × Value × Rat),xs.map (fun x=>x.2.2)=L.reverse∧J xs W':=by
 have HL:=ZZ hl;have HT:=ZZ ht;have HY:=ZZ hY;have HCP:=ZZ hcap;have HU0:=ZZ hu0;have HB0:=ZZ hb0;obtain⟨m,hm⟩:∃m,L.length=m:=⟨_,rfl⟩;rw [hm] at hBs;have HM:=ZZ hm;have HCB:=ZZ hcb;clear hl ht hY hm hcb hcap hu0 hb0;have q3:IntKind.i64.wrap ((m:Int) - 1)=(m:Int) - 1:=by have h1:=HL.out;have h2:=HM.out;exact IntWalk.i64_in _ (by omega)
 refine callsIn_of_wp Tryz.func92 rfl trivial ?_ rfl
 simp only [Tryz.ntmps92,List.size_toArray,List.length_cons,List.length_nil,Nat.reduceAdd,Nat.reduceSub,Array.replicate_succ,Array.replicate_zero,List.push_toArray,List.append_toArray,List.nil_append,List.cons_append]
 gi_wp2
 gi_loopw [3] (fun p wr=>∃(k:Nat) (pre:List (Nat × Value × Rat)),p=.int .i64 ((k:Int) - 1)∧Hid (k≤m)∧Hid (pre.map (fun x=>x.2.2)=(L.drop k).reverse)∧J pre wr∧Hid (Cx g0 w0 wr)∧wr.cell? ⟨Bs,0,none⟩=some (.slice (some ⟨b,o,none⟩) m cap)) (fun p _=>(intOf p+1).toNat)
 case atStart=>exact⟨m,[],rfl,ZZ (Nat.le_refl _),ZZ (by rw [List.drop_eq_nil_of_le (by rw [HM.out];exact Nat.le_refl _)];rfl),h0,HCB,hBs⟩
 case round=>
  obtain⟨k,pre,rfl,HK,HP,hJ,HC,hb⟩:=hrel
  rcases Nat.eq_zero_or_pos k with hz|hz
  ·subst hz
   have q1:((0:Nat):Int) - 1 = -1:=rfl;rw [q1]
   gi_wp2
   go_end0
   exact⟨⟨_,rfl⟩,pre,HP.out,hJ⟩
  ·obtain⟨j,rfl⟩:∃j,k=j+1:=⟨k - 1,by omega⟩
   have q1:((j+1:Nat):Int) - 1=(j:Int):=by omega
   rw [q1];have hjL:j<L.length:=by have h1:=HK.out;have h2:=HM.out;omega
   obtain⟨q,hq⟩:∃q,L[j]?=some q:=⟨L[j]'hjL,List.getElem?_eq_getElem _⟩;obtain⟨s,A,k1,ca,B,l1,cb,c0,c1,c2,hn⟩:=(HT.out j q hq).cx HC.out HU0.out HB0.out
   obtain⟨fn,tmps,assign,body,hy,hR⟩:=HY.out pre (j,.agg #[.bool s,.slice A k1 ca,.slice B l1 cb],q) _ hJ ⟨hn,List.mem_of_getElem? hq⟩ (by
    have h1:=congrArg List.length HP.out;rw [List.length_map,List.length_reverse,List.length_drop] at h1;have h2:=HK.out;have h3:=HM.out
    omega)
   have HQ:=ZZ hq;have HJL:=ZZ hjL;have q4:(j:Int)<(m:Int):=by have h2:=HM.out;omega
   have q5:(0:Int)≤(j:Int):=by omega
   have q6:IntKind.i64.wrap ((j:Int) - 1)=(j:Int) - 1:=by have h1:=HL.out;exact IntWalk.i64_in _ (by omega)
   clear hq hn hjL
   dsimp only [encB] at hy
   gi_wp2
   refine hR.mono ?_;rintro e W3 ⟨rfl,hJ3,hk3⟩
   have hb3:W3.cell? ⟨Bs,0,none⟩=some (.slice (some ⟨b,o,none⟩) m cap):=by
    obtain⟨ob,hob,hoc⟩:=cell_block hb;rw [World.cell?_of_block ((hk3.2 _ ob hob hoc (.inr rfl)).trans hob.symm)];exact hb
   have HC3:=ZZ (HC.out.step hk3 (fun i o hi hne _=>.inl ⟨hi,hne⟩));have HJ3:=ZZ hJ3;clear hk3 hy hR c0 c1 c2 hb hJ
   gi_wp2
   go_roundw
   case rel=>exact⟨j,_,rfl,ZZ (by have:=HK.out;omega),ZZ (by rw [List.map_append,HP.out];exact drop_rev HQ.out),HJ3.out,HC3,hb3⟩
   case measure=>simp [intOf]
theorem back_nil_in (n:Nat) (l Bs cap:Nat) (A:Option Addr) (J:List (Nat × Value × Rat)→World→Prop) (W:World) (hBs:W.cell? ⟨Bs,0,none⟩=some (.slice A 0 cap)) (h0:J [] W):CallsIn Fence.wide n Tryz.prog 92 #[.func (.yield l) #[] #[],.pointer (some ⟨Bs,0,none⟩)] W fun e W'=>(∃v,e=.returned v)∧J [] W':=by
 refine callsIn_of_wp Tryz.func92 rfl trivial ?_ rfl
 simp only [Tryz.ntmps92,List.size_toArray,List.length_cons,List.length_nil,Nat.reduceAdd,Nat.reduceSub,Array.replicate_succ,Array.replicate_zero,List.push_toArray,List.append_toArray,List.nil_append,List.cons_append]
 gi_wp2
 gi_loopw [3] (fun p wr=>p=.int .i64 (-1)∧J [] wr) (fun _ _=>0)
 case atStart=>exact⟨rfl,h0⟩
 case round=>
  obtain⟨rfl,hJs⟩:=hrel
  gi_wp2
  go_end0
  exact⟨⟨_,rfl⟩,hJs⟩
theorem back_stops (g0:Nat) (n:Nat) (hn:1≤n) (v:Value) (L:List Rat) (hl:L.length≤1000000) (w0:World) (hp:Pl w0 v L) (hu0:NoD w0 g0) (hv:∀b o n c,v=.slice (some ⟨b,o,none⟩) n c→L≠[]→b≠g0) (w:World) (hw:Ext w0 w) (Bs:Nat) (hBs:w.cell? ⟨Bs,0,none⟩=some v):SeqR Tryz.prog n 92 #[.pointer (some ⟨Bs,0,none⟩)] encB (GotB L) (fun k _=>(k<w0.heap.size∧k≠g0)∨k=Bs) (fun xs _=>xs.map (fun x=>x.2.2)=L.reverse) L.length w:=by
 intro l J W hW hJ hY h0;have hb:=am hW hBs;obtain⟨A,cap,rfl,hc,hA⟩:=hp
 by_cases hL:L=[]
 ·subst hL
  refine(back_nil_in n l Bs cap A J W hb h0).mono ?_;rintro e W' ⟨he,hj⟩;exact⟨he,[],rfl,hj⟩
 ·rcases hA with ⟨rfl,h⟩|⟨b,o,rfl,ht⟩
  ·exact absurd h hL
  ·exact back_in g0 n hn l Bs b o cap L hl hc w0 hu0 (hv _ _ _ _ rfl hL) ht J hY W (Cx.of_ext (ak hw hW)) hb h0
theorem backward_c (v:Value) (hv:∃A k c,v=.slice A k c) (w:World):Calls Tryz.prog 49 #[v] w fun e w'=>e=.returned (.func (.func 92) #[] #[.pointer (some ⟨w.heap.size,0,none⟩)])∧w'=w.alloc (.cells #[v] 25):=by
 obtain⟨A,k,c,rfl⟩:=hv
 go_enter Tryz.func49,Tryz.ntmps49
 go_wp2_with fail;go_ret
 exact⟨rfl,rfl⟩
end Go.Proofs.YtaaoleakkaloeaaGreatDoor
