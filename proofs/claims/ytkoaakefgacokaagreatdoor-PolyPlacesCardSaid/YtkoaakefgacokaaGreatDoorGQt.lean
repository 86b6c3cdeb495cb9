/- slices.Backward at numbers: the iterator. Values of polynomials at a number. -/
import Derived.Test.YtkoaakefgacokaaGreatDoorGQx
import Derived.Shelf.Abstract
import Derived.WalkKit
import Derived.OwnWalkIn
import Derived.TacticsInMore
import Derived.LoopNIn
import Derived.LoopIn
import Derived.Shelf.RegionOpen
import Derived.RegionIn
set_option linter.unusedVariables false
set_option linter.unusedSimpArgs false
set_option maxRecDepth 100000
set_option maxHeartbeats 64000000
namespace Go.Proofs.YtkoaakefgacokaaGreatDoor
open Go Go.RowKit Go.Shelf
attribute [local go_sem] Oper.semAt_some
theorem cell_block {W:World} {a:Addr} {v:Value} (h:W.cell? a=some v):∃o,W.heap[a.block]?=some o∧o.isCells=true:=by
 unfold World.cell? at h
 cases ho:W.heap[a.block]? with
 | none=>simp [ho] at h
 | some o=>exact⟨o,rfl,by cases o <;> simp_all [Obj.isCells]⟩
def Cb (W W':World):Prop:=∀(b j:Nat) (v:Value),W.cell? ⟨b,j,none⟩=some v→W'.cell? ⟨b,j,none⟩=some v
theorem Cb.of_ext {W W':World} (h:Ext W W'):Cb W W':=fun b j v hc=>ao h hc
theorem Cb.trans {A B C:World} (h:Cb A B) (k:Cb B C):Cb A C:=fun b j v hc=>k b j v (h b j v hc)
theorem Cb.step {w A B:World} {Z:Nat→Obj→Prop} (h:Cb w A) (k:KeepZ Z A B) (hz:∀i o,i<w.heap.size→A.heap[i]?=some o→Z i o):Cb w B:=fun b j v hc=>by
 have hA:=h b j v hc;obtain⟨o,ho,hoc⟩:=cell_block hA;obtain⟨o',ho',-⟩:=cell_block hc;have hlt:b<w.heap.size:=(Array.getElem?_eq_some_iff.1 ho').1;exact(World.cell?_of_block (a:=⟨b,j,none⟩) ((k.2 _ o ho hoc (hz _ o hlt ho)).trans ho.symm)).trans hA
theorem Wd.cb {W W':World} {v:Value} {n:Nat} (h:Wd W v n) (k:Cb W W'):Wd W' v n:=by
 obtain⟨A,cc,e,hc,hcl⟩:=h;refine⟨A,cc,e,hc,?_⟩
 rcases Nat.eq_zero_or_pos (dg n).length with h0|h0
 ·left;rw [List.length_eq_zero_iff.1 h0];rfl
 ·obtain⟨bl,o,hA,hce⟩:=hcl.at_ (by simpa using h0)
  right
  exact⟨bl,o,hA,fun j hj=>k _ _ _ (hce j hj)⟩
theorem Nm.cb {W W':World} {v:Value} {q:Rat} (h:Nm W v q) (k:Cb W W'):Nm W' v q:=by
 obtain⟨vn,vd,e,h1,h2⟩:=h;exact⟨vn,vd,e,h1.cb k,h2.cb k⟩
theorem Tri.cb {W W':World} {b j:Nat} {q:Rat} (h:Tri W b j q) (k:Cb W W'):Tri W' b j q:=by
 obtain⟨s,A,m,ca,B,n,cb,h1,h2,h3,h4⟩:=h;exact⟨s,A,m,ca,B,n,cb,k _ _ _ h1,k _ _ _ h2,k _ _ _ h3,h4.cb k⟩
def Cx (g:Nat) (W W':World):Prop:=∀(b j:Nat) (v:Value),b≠g→W.cell? ⟨b,j,none⟩=some v→W'.cell? ⟨b,j,none⟩=some v
def NoD (W:World) (g:Nat):Prop:=∀(j:Nat) (z:Int),W.cell? ⟨g,j,none⟩≠some (.int .u64 z)
theorem Cx.of_ext {g:Nat} {W W':World} (h:Ext W W'):Cx g W W':=fun b j v _ hc=>ao h hc
theorem Cx.step {g:Nat} {w A B:World} {Z:Nat→Obj→Prop} (h:Cx g w A) (k:KeepZ Z A B) (hz:∀i o,i<w.heap.size→i≠g→A.heap[i]?=some o→Z i o):Cx g w B:=fun b j v hne hc=>by
 have hA:=h b j v hne hc;obtain⟨o,ho,hoc⟩:=cell_block hA;obtain⟨o',ho',-⟩:=cell_block hc;have hlt:b<w.heap.size:=(Array.getElem?_eq_some_iff.1 ho').1;exact(World.cell?_of_block (a:=⟨b,j,none⟩) ((k.2 _ o ho hoc (hz _ o hlt hne ho)).trans ho.symm)).trans hA
theorem Wd.cx {g:Nat} {W W':World} {v:Value} {n:Nat} (h:Wd W v n) (k:Cx g W W') (hu:NoD W g):Wd W' v n:=by
 obtain⟨A,cc,e,hc,hcl⟩:=h;refine⟨A,cc,e,hc,?_⟩
 rcases Nat.eq_zero_or_pos (dg n).length with h0|h0
 ·left;rw [List.length_eq_zero_iff.1 h0];rfl
 ·obtain⟨bl,o,hA,hce⟩:=hcl.at_ (by simpa using h0)
  right
  refine⟨bl,o,hA,fun j hj=>k _ _ _ (fun hb=>?_) (hce j hj)⟩;have hj':j<(dg n).length:=by simpa using hj
  have h1:=hce j hj;rw [getD_map_u64 _ _ hj',hb] at h1;exact hu _ _ h1
theorem Nm.cx {g:Nat} {W W':World} {v:Value} {q:Rat} (h:Nm W v q) (k:Cx g W W') (hu:NoD W g):Nm W' v q:=by
 obtain⟨vn,vd,e,h1,h2⟩:=h;exact⟨vn,vd,e,h1.cx k hu,h2.cx k hu⟩
theorem Tri.cx {g:Nat} {W W':World} {b j:Nat} {q:Rat} (h:Tri W b j q) (k:Cx g W W') (hu:NoD W g) (hb:b≠g):Tri W' b j q:=by
 obtain⟨s,A,m,ca,B,n,cb,h1,h2,h3,h4⟩:=h;exact⟨s,A,m,ca,B,n,cb,k _ _ _ hb h1,k _ _ _ hb h2,k _ _ _ hb h3,h4.cx k hu⟩
def encB (x:Nat × Value × Rat):Array Value:=#[.int .i64 (x.1:Int),x.2.1]
def GotB (L:List Rat) (x:Nat × Value × Rat) (W:World):Prop:=Nm W x.2.1 x.2.2∧x.2.2 ∈ L
theorem drop_rev {L:List Rat} {j:Nat} {q:Rat} (h:L[j]?=some q):(L.drop (j+1)).reverse ++ [q]=(L.drop j).reverse:=by
 obtain⟨hj,rfl⟩:=List.getElem?_eq_some_iff.1 h;rw [List.drop_eq_getElem_cons hj,List.reverse_cons]
theorem back_in (g0:Nat) (n:Nat) (hn:1≤n) (l Bs b o cap:Nat) (L:List Rat) (hl:L.length≤1000000) (hcap:L.length≤cap) (w0:World) (hu0:NoD w0 g0) (hb0:b≠g0) (ht:∀i q,L[i]?=some q→Tri w0 b (o+i*3) q) (J:List (Nat × Value × Rat)→World→Prop) (hY:∀pre x W1,J pre W1→GotB L x W1→pre.length<L.length→YieldAt Fence.wide (n - 1) Tryz.prog l (encB x) W1 fun e W'=>e=.returned (.bool true)∧J (pre ++ [x]) W'∧KeepZ (fun k _=>(k<w0.heap.size∧k≠g0)∨k=Bs) W1 W') (W:World) (hcb:Cx g0 w0 W) (hBs:W.cell? ⟨Bs,0,none⟩=some (.slice (some ⟨b,o,none⟩) L.length cap)) (h0:J [] W):CallsIn Fence.wide n Tryz.prog 123 #[.func (.yield l) #[] #[],.pointer (some ⟨Bs,0,none⟩)] W fun e W'=>(∃v,e=.returned v)∧∃xs:List (Nat × Value × Rat),xs.map (fun x=>x.2.2)=L.reverse∧J xs W':=by
 have HL:=ZZ hl;have HT:=ZZ ht;have HY:=ZZ hY;have HCP:=ZZ hcap;have HU0:=ZZ hu0;have HB0:=ZZ hb0;obtain⟨m,hm⟩:∃m,L.length=m:=⟨_,rfl⟩;rw [hm] at hBs;have HM:=ZZ hm;have HCB:=ZZ hcb;clear hl ht hY hm hcb hcap hu0 hb0;have q3:IntKind.i64.wrap ((m:Int) - 1)=(m:Int) - 1:=by have h1:=HL.out;have h2:=HM.out;exact IntWalk.i64_in _ (by omega)
 refine callsIn_of_wp Tryz.func123 rfl trivial ?_ rfl
 simp only [Tryz.ntmps123,List.size_toArray,List.length_cons,List.length_nil,Nat.reduceAdd,Nat.reduceSub,Array.replicate_succ,Array.replicate_zero,List.push_toArray,List.append_toArray,List.nil_append,List.cons_append]
 gi_wp2
 gi_loopw [3] (fun p wr=>∃(k:Nat) (pre:List (Nat × Value × Rat)),p=.int .i64 ((k:Int) - 1)∧Hid (k≤m)∧Hid (pre.map (fun x=>x.2.2)=(L.drop k).reverse)∧J pre wr∧Hid (Cx g0 w0 wr)∧wr.cell? ⟨Bs,0,none⟩=some (.slice (some ⟨b,o,none⟩) m cap)) (fun p _=>(intOf p+1).toNat)
 case atStart=>exact⟨m,[],rfl,ZZ (Nat.le_refl _),ZZ (by rw [List.drop_eq_nil_of_le (by rw [HM.out];exact Nat.le_refl _)];rfl),h0,HCB,hBs⟩
 case round=>
  obtain⟨k,pre,rfl,HK,HP,hJ,HC,hb⟩:=hrel
  rcases Nat.eq_zero_or_pos k with hz|hz
  ·subst hz
   have q1:((0:Nat):Int) - 1 = -1:=rfl;rw [q1]
   gi_wp2
   go_end0
   exact⟨⟨_,rfl⟩,pre,HP.out,hJ⟩
  ·obtain⟨j,rfl⟩:∃j,k=j+1:=⟨k - 1,by omega⟩
   have q1:((j+1:Nat):Int) - 1=(j:Int):=by omega
   rw [q1];have hjL:j<L.length:=by have h1:=HK.out;have h2:=HM.out;omega
   obtain⟨q,hq⟩:∃q,L[j]?=some q:=⟨L[j]'hjL,List.getElem?_eq_getElem _⟩;obtain⟨s,A,k1,ca,B,l1,cb,c0,c1,c2,hn⟩:=(HT.out j q hq).cx HC.out HU0.out HB0.out
   obtain⟨fn,tmps,assign,body,hy,hR⟩:=HY.out pre (j,.agg #[.bool s,.slice A k1 ca,.slice B l1 cb],q) _ hJ ⟨hn,List.mem_of_getElem? hq⟩ (by
    have h1:=congrArg List.length HP.out;rw [List.length_map,List.length_reverse,List.length_drop] at h1;have h2:=HK.out;have h3:=HM.out
    omega)
   have HQ:=ZZ hq;have HJL:=ZZ hjL;have q4:(j:Int)<(m:Int):=by have h2:=HM.out;omega
   have q5:(0:Int)≤(j:Int):=by omega
   have q6:IntKind.i64.wrap ((j:Int) - 1)=(j:Int) - 1:=by have h1:=HL.out;exact IntWalk.i64_in _ (by omega)
   clear hq hn hjL
   dsimp only [encB] at hy
   gi_wp2
   refine hR.mono ?_;rintro e W3 ⟨rfl,hJ3,hk3⟩
   have hb3:W3.cell? ⟨Bs,0,none⟩=some (.slice (some ⟨b,o,none⟩) m cap):=by
    obtain⟨ob,hob,hoc⟩:=cell_block hb;rw [World.cell?_of_block ((hk3.2 _ ob hob hoc (.inr rfl)).trans hob.symm)];exact hb
   have HC3:=ZZ (HC.out.step hk3 (fun i o hi hne _=>.inl ⟨hi,hne⟩));have HJ3:=ZZ hJ3;clear hk3 hy hR c0 c1 c2 hb hJ
   gi_wp2
   go_roundw
   case rel=>exact⟨j,_,rfl,ZZ (by have:=HK.out;omega),ZZ (by rw [List.map_append,HP.out];exact drop_rev HQ.out),HJ3.out,HC3,hb3⟩
   case measure=>simp [intOf]
theorem back_nil_in (n:Nat) (l Bs cap:Nat) (A:Option Addr) (J:List (Nat × Value × Rat)→World→Prop) (W:World) (hBs:W.cell? ⟨Bs,0,none⟩=some (.slice A 0 cap)) (h0:J [] W):CallsIn Fence.wide n Tryz.prog 123 #[.func (.yield l) #[] #[],.pointer (some ⟨Bs,0,none⟩)] W fun e W'=>(∃v,e=.returned v)∧J [] W':=by
 refine callsIn_of_wp Tryz.func123 rfl trivial ?_ rfl
 simp only [Tryz.ntmps123,List.size_toArray,List.length_cons,List.length_nil,Nat.reduceAdd,Nat.reduceSub,Array.replicate_succ,Array.replicate_zero,List.push_toArray,List.append_toArray,List.nil_append,List.cons_append]
 gi_wp2
 gi_loopw [3] (fun p wr=>p=.int .i64 (-1)∧J [] wr) (fun _ _=>0)
 case atStart=>exact⟨rfl,h0⟩
 case round=>
  obtain⟨rfl,hJs⟩:=hrel
  gi_wp2
  go_end0
  exact⟨⟨_,rfl⟩,hJs⟩
theorem back_stops (g0:Nat) (n:Nat) (hn:1≤n) (v:Value) (L:List Rat) (hl:L.length≤1000000) (w0:World) (hp:Pl w0 v L) (hu0:NoD w0 g0) (hv:∀b o n c,v=.slice (some ⟨b,o,none⟩) n c→L≠[]→b≠g0) (w:World) (hw:Ext w0 w) (Bs:Nat) (hBs:w.cell? ⟨Bs,0,none⟩=some v):SeqR Tryz.prog n 123 #[.pointer (some ⟨Bs,0,none⟩)] encB (GotB L) (fun k _=>(k<w0.heap.size∧k≠g0)∨k=Bs) (fun xs _=>xs.map (fun x=>x.2.2)=L.reverse) L.length w:=by
 intro l J W hW hJ hY h0;have hb:=ao hW hBs;obtain⟨A,cap,rfl,hc,hA⟩:=hp
 by_cases hL:L=[]
 ·subst hL
  refine(back_nil_in n l Bs cap A J W hb h0).mono ?_;rintro e W' ⟨he,hj⟩;exact⟨he,[],rfl,hj⟩
 ·rcases hA with ⟨rfl,h⟩|⟨b,o,rfl,ht⟩
  ·exact absurd h hL
  ·exact back_in g0 n hn l Bs b o cap L hl hc w0 hu0 (hv _ _ _ _ rfl hL) ht J hY W (Cx.of_ext (al hw hW)) hb h0
theorem backward_c (v:Value) (hv:∃A k c,v=.slice A k c) (w:World):Calls Tryz.prog 86 #[v] w fun e w'=>e=.returned (.func (.func 123) #[] #[.pointer (some ⟨w.heap.size,0,none⟩)])∧w'=w.alloc (.cells #[v] 27):=by
 obtain⟨A,k,c,rfl⟩:=hv
 go_enter Tryz.func86,Tryz.ntmps86
 go_wp2_with fail;go_ret
 exact⟨rfl,rfl⟩
end Go.Proofs.YtkoaakefgacokaaGreatDoor
namespace Go.Proofs.YtkoaakefgacokaaGreatDoor
open Go Go.RowKit Go.Shelf
attribute [local go_sem] Oper.semAt_some
theorem ownz_block {A B:World} {row:Option Nat} {n k:Nat} {cs:Array Value} {T:TypeId} {f:Nat × Nat} (hg:A.grownBy B row) (hr:∀r,row=some r→n≤r∧∃o:Obj,A.heap[r]?=some o∧o.isCells=false) (h:A.heap[k]?=some (.cells cs T f)):B.heap[k]?=some (.cells cs T f):=
 (hg.block k (Array.getElem?_eq_some_iff.1 h).1 (fun e=>by obtain⟨-,o,ho,hc⟩:=hr k e.symm;rw [h] at ho;cases ho;cases hc)).trans h
theorem ownz_cb {A B:World} {row:Option Nat} {n:Nat} (hg:A.grownBy B row) (hr:∀r,row=some r→n≤r∧∃o:Obj,A.heap[r]?=some o∧o.isCells=false):Cb A B:=fun b j v hc=>by
 obtain⟨o,ho,hoc⟩:=cell_block hc;rw [World.cell?_of_block (w':=B) (w:=A) (hg.block b (Array.getElem?_eq_some_iff.1 ho).1 (fun e=>by obtain⟨-,o',ho',hc'⟩:=hr b e.symm;rw [ho] at ho';cases ho';rw [hoc] at hc';cases hc'))];exact hc
theorem ownz_ext {w A B:World} {row:Option Nat} {n:Nat} (h:Ext w A) (hn:w.heap.size≤n) (hg:A.grownBy B row) (hr:∀r,row=some r→n≤r∧∃o:Obj,A.heap[r]?=some o∧o.isCells=false):Ext w B:=
 Below.grown h hg h.size (fun k e=>Nat.le_trans hn (hr k e).1)
def hornF (x:Rat) (xs:List Rat):Rat:=xs.foldl (fun o c=>o*x+c) 0
theorem horn_snoc (x:Rat) (xs:List Rat) (c:Rat):hornF x (xs ++ [c])=hornF x xs*x+c:=by simp [hornF]
theorem horn_rev (x:Rat) (L:List Rat):hornF x L.reverse=evR L x:=by
 induction L with
 | nil=>rfl
 | cons a L ih=>rw [List.reverse_cons,horn_snoc,ih];rfl
theorem no_cell {w:World} {g:Nat} (h:w.heap.size≤g):NoD w g:=fun j z hc=>by
 obtain⟨o,ho,-⟩:=cell_block hc
 have:g<w.heap.size:=(Array.getElem?_eq_some_iff.1 ho).1
 omega
theorem pl_block_ne {w:World} {v:Value} {L:List Rat} {b o n c g:Nat} (h:Pl w v L) (e:v=.slice (some ⟨b,o,none⟩) n c) (hne:L≠[]) (hg:w.heap.size≤g):b≠g:=by
 obtain⟨A,cap,e1,hc,hA⟩:=h;rw [e1] at e
 injection e with e2 e3 e4
 rcases hA with ⟨-,h⟩|⟨b',o',e5,ht⟩
 ·exact absurd h hne
 ·rw [e2] at e5
  injection e5 with e6
  injection e6 with e7 e8
  obtain⟨q,hq⟩:∃q,L[0]?=some q:=by cases L with|nil=>exact absurd rfl hne|cons a l=>exact⟨a,rfl⟩
  obtain⟨s,A1,k,ca,B,m,cb,c0,-⟩:=ht 0 q hq;obtain⟨ob,hob,-⟩:=cell_block c0
  have:b'<w.heap.size:=(Array.getElem?_eq_some_iff.1 hob).1
  omega
def OutE (M:Nat) (x:Rat) (go:Nat) (pre:List (Nat × Value × Rat)) (W:World):Prop:=∃(s2:Bool) (A2:Option Addr) (k2 ca2:Nat) (B2:Option Addr) (l2 cb2:Nat),W.heap[go]?=some (.cells #[.bool s2,.slice A2 k2 ca2,.slice B2 l2 cb2] 38 (0,0))∧Nm W (.agg #[.bool s2,.slice A2 k2 ca2,.slice B2 l2 cb2]) (hornF x (pre.map fun y=>y.2.2))∧Bq (pre.length*(M+M+1)+1) (hornF x (pre.map fun y=>y.2.2))
theorem noU_row {W:World} {g:Nat} {s:Bool} {A B:Option Addr} {k ca l cb:Nat} {T:TypeId} (h:W.heap[g]?=some (.cells #[.bool s,.slice A k ca,.slice B l cb] T (0,0))):NoU W g 3:=by
 intro j z hj he;rw [cell_of_row W g j _ _ _ h] at he
 match j,hj with
 | 0,_=>cases he
 | 1,_=>cases he
 | 2,_=>cases he
theorem nm_put3b {W:World} {v:Value} {q:Rat} {g:Nat} {s:Bool} {A B:Option Addr} {k ca l cb:Nat} {T:TypeId} (h:Nm W v q) (hr:W.heap[g]?=some (.cells #[.bool s,.slice A k ca,.slice B l cb] T (0,0))) (a b c:Value):Nm (put3at W g 0 a b c) v q:=
 h.keepC (noU_row hr) (fun b' j hne=>put3at_cell hr a b c b' j (by rcases hne with e|e;exact .inl e;exact .inr (by omega)))
theorem put3b_row {W:World} {g:Nat} {x y z:Value} {T:TypeId} (hr:W.heap[g]?=some (.cells #[x,y,z] T (0,0))) (a b c:Value):(put3at W g 0 a b c).heap[g]?=some (.cells #[a,b,c] T (0,0)):=by
 have h:=put3at_row (j:=0) hr a b c
 simpa using h
theorem put3b_other {W:World} {g k:Nat} (a b c:Value) (h:k≠g):(put3at W g 0 a b c).heap[k]?=W.heap[k]?:=by
 unfold put3at;rw [Below.heap_setCell _ _ _ _ h,Below.heap_setCell _ _ _ _ h,Below.heap_setCell _ _ _ _ h]
theorem put3b_size (W:World) (g:Nat) (a b c:Value):(put3at W g 0 a b c).heap.size=W.heap.size:=by simp [put3at,World.setCell]
theorem put3b_keeps {W W5:World} {g:Nat} {cs:Array Value} {T:TypeId} {f:Nat × Nat} (k:Ext W W5) (hr:W.heap[g]?=some (.cells cs T f)) (a b c:Value) (n:Nat):KeepsFrom n W (put3at W5 g 0 a b c):=
 ⟨by rw [put3b_size];exact k.size,fun i o _ hi ho=>by
  have hne:i≠g:=fun e=>by subst e;rw [hr] at hi;cases hi;cases ho
  rw [put3b_other _ _ _ hne];exact(k.block _ (Array.getElem?_eq_some_iff.1 hi).1).trans hi⟩
theorem put3b_keepZ {W W5:World} {g:Nat} {Z:Nat→Obj→Prop} (k:Ext W W5) (hz:∀o,¬ Z g o) (a b c:Value):KeepZ Z W (put3at W5 g 0 a b c):=
 ⟨by rw [put3b_size];exact k.size,fun i o hi _ hzi=>by
  have hne:i≠g:=fun e=>by subst e;exact hz _ hzi
  rw [put3b_other _ _ _ hne];exact(k.block _ (Array.getElem?_eq_some_iff.1 hi).1).trans hi⟩
theorem eval_p (M:Nat) (hM:0<M) (v vx:Value) (L:List Rat) (x:Rat) (hl:L.length≤100000) (hK:L.length*(M+M+1)+1+M≤1099511627776) (w:World) (hp:Pl w v L) (hx:Nm w vx x) (hb:∀c ∈ L,Bq M c) (bx:Bq M x):Calls Tryz.prog 45 #[v,vx] w fun e w'=>∃v',e=.returned v'∧Nm w' v' (evR L x)∧Ext w w':=by
 obtain⟨s1,A1,k1,ca1,B1,l1,cb1,rfl⟩:=hx.form2;obtain⟨m,hm⟩:∃m,L.length=m:=⟨_,rfl⟩;obtain⟨A,cap,rfl,-,-⟩:=id hp;rw [hm] at hp ⊢;have HP:=ZZ hp;have HX:=ZZ hx;have HL:=ZZ hl;have HK:=ZZ hK;have HB:=ZZ hb;have BX:=ZZ bx;have HM0:=ZZ hM;have HM:=ZZ hm;clear hp hx hl hK hb bx hM hm;refine(callsIn_wide (n:=4)).1 ?_;refine callsIn_of_wp_marks Tryz.func45 rfl trivial ?_ rfl
 simp only [Tryz.ntmps45,List.size_toArray,List.length_cons,List.length_nil,Nat.reduceAdd,Nat.reduceSub,Array.replicate_succ,Array.replicate_zero,List.push_toArray,List.append_toArray,List.nil_append,List.cons_append]
 have bk:=backward_c (.slice A m cap) ⟨_,_,_,rfl⟩
 gi_wp2_with (refine⟨trivial,?_⟩;gi_at_call 86;refine(callsIn_wide.2 (bk _)).mono ?_;rintro e w' ⟨rfl,rfl⟩)
 clear bk;obtain⟨gx,hgx⟩:∃g,w.heap.size=g:=⟨_,rfl⟩;obtain⟨gr,hgr⟩:∃g,w.heap.size+1=g:=⟨_,rfl⟩;obtain⟨go,hgo⟩:∃g,w.heap.size+1+1=g:=⟨_,rfl⟩;obtain⟨gb,hgb⟩:∃g,w.heap.size+1+1+1=g:=⟨_,rfl⟩;obtain⟨W4,hW4⟩:∃W,W=(((w.alloc (.cells #[.bool s1,.slice A1 k1 ca1,.slice B1 l1 cb1] 38)).alloc (.cells #[.bool false,.slice none 0 0,.slice none 0 0] 38)).alloc (.cells #[.bool false,.slice none 0 0,.slice none 0 0] 38)).alloc (.cells #[.slice A m cap] 27):=⟨_,rfl⟩;have sz:∀(W:World) (o:Obj),(W.alloc o).heap.size=W.heap.size+1:=fun W o=>World.size_alloc W o;have x1:Ext w W4:=by rw [hW4];exact al (ab _ _) (al (ab _ _) (al (ab _ _) (ab _ _)))
 have rx:W4.heap[gx]?=some (.cells #[.bool s1,.slice A1 k1 ca1,.slice B1 l1 cb1] 38 (0,0)):=by
  have h:=(al (ab _ (.cells #[.bool false,.slice none 0 0,.slice none 0 0] 38)) (al (ab _ (.cells #[.bool false,.slice none 0 0,.slice none 0 0] 38)) (ab _ (.cells #[.slice A m cap] 27)))).block w.heap.size (by rw [sz];omega:w.heap.size<(w.alloc (.cells #[.bool s1,.slice A1 k1 ca1,.slice B1 l1 cb1] 38)).heap.size);rw [hW4,←hgx];exact h.trans (heap_alloc_new w _)
 have rr:W4.heap[gr]?=some (.cells #[.bool false,.slice none 0 0,.slice none 0 0] 38 (0,0)):=by
  have h:=(al (ab _ (.cells #[.bool false,.slice none 0 0,.slice none 0 0] 38)) (ab _ (.cells #[.slice A m cap] 27))).block (w.heap.size+1) (by rw [sz,sz];omega:w.heap.size+1<((w.alloc (.cells #[.bool s1,.slice A1 k1 ca1,.slice B1 l1 cb1] 38)).alloc (.cells #[.bool false,.slice none 0 0,.slice none 0 0] 38)).heap.size);rw [hW4,←hgr,h,←sz w (.cells #[.bool s1,.slice A1 k1 ca1,.slice B1 l1 cb1] 38)];exact heap_alloc_new _ _
 have ro:W4.heap[go]?=some (.cells #[.bool false,.slice none 0 0,.slice none 0 0] 38 (0,0)):=by
  have h:=(ab (((w.alloc (.cells #[.bool s1,.slice A1 k1 ca1,.slice B1 l1 cb1] 38)).alloc (.cells #[.bool false,.slice none 0 0,.slice none 0 0] 38)).alloc (.cells #[.bool false,.slice none 0 0,.slice none 0 0] 38)) (.cells #[.slice A m cap] 27)).block (w.heap.size+1+1) (by rw [sz,sz,sz];omega);rw [hW4,←hgo,h,←sz w (.cells #[.bool s1,.slice A1 k1 ca1,.slice B1 l1 cb1] 38),←sz (w.alloc (.cells #[.bool s1,.slice A1 k1 ca1,.slice B1 l1 cb1] 38)) (.cells #[.bool false,.slice none 0 0,.slice none 0 0] 38)];exact heap_alloc_new _ _
 have rb:W4.heap[gb]?=some (.cells #[.slice A m cap] 27 (0,0)):=by
  rw [hW4,←hgb,←sz w (.cells #[.bool s1,.slice A1 k1 ca1,.slice B1 l1 cb1] 38),←sz (w.alloc (.cells #[.bool s1,.slice A1 k1 ca1,.slice B1 l1 cb1] 38)) (.cells #[.bool false,.slice none 0 0,.slice none 0 0] 38),←sz ((w.alloc (.cells #[.bool s1,.slice A1 k1 ca1,.slice B1 l1 cb1] 38)).alloc (.cells #[.bool false,.slice none 0 0,.slice none 0 0] 38)) (.cells #[.bool false,.slice none 0 0,.slice none 0 0] 38)];exact heap_alloc_new _ _
 have s4:gb<W4.heap.size:=lt_of_block rb;have hdist:w.heap.size≤go∧gb≠go∧gr≠go∧gx≠go∧w.heap.size≤W4.heap.size∧go<W4.heap.size∧w.heap.size≤gr:=⟨by omega,by omega,by omega,by omega,x1.size,by omega,by omega⟩;rw [←hW4,hgb,hgo,hgr,hgx];clear hgx hgr hgo hgb hW4 sz;obtain⟨d1,d2,d3,d4,d5,d6,d7⟩:=hdist;refine wpIn_rangeR (gf:=123) (lb:=#[.pointer (some ⟨gb,0,none⟩)]) rfl (enters_of Tryz.func123 (by kernel_rfl) rfl) (back_stops go 3 (by decide) (.slice A m cap) L (by have:=HL.out;omega) w HP.out (no_cell d1) (fun b o n c e hne=>pl_block_ne HP.out e hne d1) W4 x1 gb (by rw [cell_of_row _ _ _ _ _ _ rb];rfl)) (ae _) (fun _=>rfl) (fun pre W=>Hid (Ext w W∧W.heap[gx]?=some (.cells #[.bool s1,.slice A1 k1 ca1,.slice B1 l1 cb1] 38 (0,0))∧W.heap[gr]?=some (.cells #[.bool false,.slice none 0 0,.slice none 0 0] 38 (0,0))∧OutE M x go pre W))
  (fun pre A' B' row hs hg hr=>by
   obtain⟨h1,h2,h3,s2,A2,k2,ca2,B2,l2,cb2,h4,h5,h6⟩:=hs.out;exact ZZ ⟨ownz_ext h1 d5 hg hr,ownz_block hg hr h2,ownz_block hg hr h3,s2,A2,k2,ca2,B2,l2,cb2,ownz_block hg hr h4,h5.cb (ownz_cb hg hr),h6⟩)
  (ZZ ⟨x1,rx,rr,_,_,_,_,_,_,_,ro,Nm.zero _,bq_zero _ (by omega)⟩)
  (fun y a' W=>∃(gc:Nat) (s3:Bool) (A3:Option Addr) (k3 ca3:Nat) (B3:Option Addr) (l3 cb3:Nat),gc≠go∧y.2.1=.agg #[.bool s3,.slice A3 k3 ca3,.slice B3 l3 cb3]∧W.heap[gc]?=some (.cells #[.bool s3,.slice A3 k3 ca3,.slice B3 l3 cb3] 38 (0,0))∧GotB L y W∧a'={ tmps:=#[.slice A m cap,.agg #[.bool s1,.slice A1 k1 ca1,.slice B1 l1 cb1],undef,.pointer (some ⟨gx,0,none⟩),.pointer (some ⟨gr,0,none⟩),.pointer (some ⟨go,0,none⟩),undef,.pointer (some ⟨gc,0,none⟩),.slice A m cap,.func (.func 123) #[] #[.pointer (some ⟨gb,0,none⟩)],.int .i64 (y.1:Int),y.2.1,undef,undef,undef,undef,undef,undef],defers:=[] })
  (fun y a' u A' B' row hs hg hr=>by
   obtain⟨gc,s3,A3,k3,ca3,B3,l3,cb3,h1,h2,h3,h4,h5⟩:=hs;exact⟨gc,s3,A3,k3,ca3,B3,l3,cb3,h1,h2,ownz_block hg hr h3,⟨h4.1.cb (ownz_cb hg hr),h4.2⟩,h5⟩)
  (fun _ _ _ _ hs _ _=>hs) ?assign ?body ?done
 case assign=>
  rintro l pre ⟨i,v',q⟩ W K hi hr hK;obtain⟨s3,A3,k3,ca3,B3,l3,cb3,e3⟩:=hr.1.form2;obtain rfl:v'=.agg #[.bool s3,.slice A3 k3 ca3,.slice B3 l3 cb3]:=e3
  have hlt:go<W.heap.size:=by
   obtain⟨-,-,-,s2,A2,k2,ca2,B2,l2,cb2,h4,-⟩:=hi.out;exact lt_of_block h4
  have hK2:=fun gc h1 h3 h4=>hK { tmps:=#[.slice A m cap,.agg #[.bool s1,.slice A1 k1 ca1,.slice B1 l1 cb1],undef,.pointer (some ⟨gx,0,none⟩),.pointer (some ⟨gr,0,none⟩),.pointer (some ⟨go,0,none⟩),undef,.pointer (some ⟨gc,0,none⟩),.slice A m cap,.func (.func 123) #[] #[.pointer (some ⟨gb,0,none⟩)],.int .i64 (i:Int),.agg #[.bool s3,.slice A3 k3 ca3,.slice B3 l3 cb3],undef,undef,undef,undef,undef,undef],defers:=[] } (W.alloc (.cells #[.bool s3,.slice A3 k3 ca3,.slice B3 l3 cb3] 38)) (ab _ _) ⟨gc,s3,A3,k3,ca3,B3,l3,cb3,h1,rfl,h3,h4,rfl⟩;have hK3:=hK2 W.heap.size (by omega) (heap_alloc_new W _) ⟨hr.1.mono (ab _ _),hr.2⟩;clear hK hK2 hr hi
  simp only [encB]
  gi_wp2
  exact hK3
 case body=>
  rintro l pre ⟨i,v',q⟩ a' W hI ⟨gc,s3,A3,k3,ca3,B3,l3,cb3,hne,e3,hC,hgot,rfl⟩ hlen;obtain rfl:v'=.agg #[.bool s3,.slice A3 k3 ca3,.slice B3 l3 cb3]:=e3;obtain⟨hE,hX,hR,s2,A2,k2,ca2,B2,l2,cb2,hO,hN,hB⟩:=hI.out;have q9:pre.length<L.length:=hlen;have HF:=ZZ (show ∀W':World,Ext W W'→W'.heap[gx]?=some (.cells #[.bool s1,.slice A1 k1 ca1,.slice B1 l1 cb1] 38 (0,0))∧W'.heap[go]?=some (.cells #[.bool s2,.slice A2 k2 ca2,.slice B2 l2 cb2] 38 (0,0))∧W'.heap[gc]?=some (.cells #[.bool s3,.slice A3 k3 ca3,.slice B3 l3 cb3] 38 (0,0)) from fun W' k=>⟨(k.block _ (lt_of_block hX)).trans hX,(k.block _ (lt_of_block hO)).trans hO,(k.block _ (lt_of_block hC)).trans hC⟩);have HXW:=ZZ (HX.out.mono hE);have HNW:=ZZ hN;have HCW:=ZZ hgot.1;have BC:=ZZ (HB.out _ hgot.2);have BO:=ZZ hB;have HEW:=ZZ hE;have HXR:=ZZ hX;have HRR:=ZZ hR;have HNE:=ZZ hne;have HPM:=ZZ (show pre.length*(M+M+1)+1+M≤L.length*(M+M+1)+1+M from Nat.add_le_add_right (Nat.add_le_add_right (Nat.mul_le_mul_right _ (Nat.le_of_lt q9)) 1) M)
  have HPS:=ZZ (show pre.length*(M+M+1)+1+M+M+1≤L.length*(M+M+1)+1 from by
   have h1:(pre.length+1)*(M+M+1)≤L.length*(M+M+1):=Nat.mul_le_mul_right _ q9;rw [Nat.succ_mul] at h1
   omega)
  obtain⟨p0,p1,p2,-⟩:=aj hX;obtain⟨r0,r1,r2,rf0,rf1,rf2⟩:=aj hO;obtain⟨t0,t1,t2,-⟩:=aj hC;clear hE hX hR hO hN hB hne hC hgot hlen q9 hI;have hmx:Tryz.prog.follows .mixedOrders=true:=by kernel_rfl
  gi_wp2
  gi_region_with_o (first
   |(refine⟨trivial,?_⟩;gi_at_call 22;refine(CallsIn.inRound l (callsIn_wide.2 (mul_q (pre.length*(M+M+1)+1+M) (Nat.le_trans HPM.out HK.out) _ _ (hornF x (pre.map fun y=>y.2.2)) x _ (HNW.out.mono (ac _)) (HXW.out.mono (ac _)) (BO.out.mono (by omega)) (BX.out.mono (by omega))))).mono ?_;rintro e w5 ⟨v5,rfl,h5,kk5⟩;obtain⟨s5,A5,k5,ca5,B5,l5,cb5,rfl⟩:=h5.form2;have E5:=ZZ (show Ext W w5 from al (ac _) kk5);have H5:=ZZ h5;clear h5 kk5;obtain⟨-,y1,y2⟩:=HF.out w5 E5.out;obtain⟨a0,a1,a2,-⟩:=aj y2;clear y1 y2)
   |(refine⟨trivial,?_⟩;gi_at_call 21;refine(CallsIn.inRound l (callsIn_wide.2 (add_q (L.length*(M+M+1)+1+M) HK.out _ _ (hornF x (pre.map fun y=>y.2.2)*x) q _ H5.out (HCW.out.mono E5.out) ((BO.out.mul BX.out).mono HPM.out) (BC.out.mono (by omega))))).mono ?_;rintro e w6 ⟨v6,rfl,h6,kk6⟩;obtain⟨s6,A6,k6,ca6,B6,l6,cb6,rfl⟩:=h6.form2;have E6:=ZZ (al E5.out kk6);have H6:=ZZ h6;clear h6 kk6;obtain⟨y0,y1,y2⟩:=HF.out w6 E6.out;obtain⟨b0,b1,b2,bf0,bf1,bf2⟩:=aj y1;have HY1:=ZZ y1;clear y0 y1 y2))
  all_goals gi_wp2
  all_goals refine⟨put3b_keeps E6.out (HF.out W (ae _)).2.1 _ _ _ _,put3b_keepZ E6.out (by intro o h;omega) _ _ _,ZZ ⟨(((al HEW.out E6.out).setCell d1 _).setCell d1 _).setCell d1 _,(put3b_other _ _ _ d4).trans ((E6.out.block _ (lt_of_block HXR.out)).trans HXR.out),(put3b_other _ _ _ d3).trans ((E6.out.block _ (lt_of_block HRR.out)).trans HRR.out),s6,A6,k6,ca6,B6,l6,cb6,put3b_row HY1.out _ _ _,?_,?_⟩⟩
  all_goals first|(rw [List.map_append,List.map_singleton,horn_snoc];exact nm_put3b H6.out HY1.out _ _ _)|(rw [List.map_append,List.map_singleton,horn_snoc,List.length_append,List.length_singleton,Nat.succ_mul];exact((BO.out.mul BX.out).add BC.out).mono (by omega))
 case done=>
  rintro D ys W hD hs hI hK;obtain⟨hE,hX,hR,s2,A2,k2,ca2,B2,l2,cb2,hO,hN,hB⟩:=hI.out;rw [hs,horn_rev] at hN;have HEW:=ZZ hE;have HNW:=ZZ hN;have HRR:=ZZ hR;have HKD:=ZZ hK;obtain⟨r0,r1,r2,rf0,rf1,rf2⟩:=aj hO;obtain⟨t0,t1,t2,tf0,tf1,tf2⟩:=aj hR;have hgd:gr≠D:=fun e=>by subst e;rw [hR] at hK;cases hK
  clear hI hs hE hX hR hO hN hB hK rx rr ro rb
  gi_wp2
  have hk3:=((((KeepsOthers.setCell W ⟨gr,0,none⟩ (.bool s2)).trans (KeepsOthers.setCell _ ⟨gr,1,none⟩ (.slice A2 k2 ca2))).trans (KeepsOthers.setCell _ ⟨gr,2,none⟩ (.slice B2 l2 cb2))).same D _ HKD.out rfl);refine⟨by simp,.inl ⟨_,_,rfl,run_takeDeferred hk3,?_⟩⟩;obtain⟨W9,hW9⟩:∃X,X=(put3at W gr 0 (.bool s2) (.slice A2 k2 ca2) (.slice B2 l2 cb2)).putObj D (.deferred none):=⟨_,rfl⟩
  have h9:W9.heap[gr]?=some (.cells #[.bool s2,.slice A2 k2 ca2,.slice B2 l2 cb2] 38 (0,0)):=by
   rw [hW9];exact(World.putObj_heap_other hgd).trans (put3b_row HRR.out _ _ _)
  have hn9:Nm W9 (.agg #[.bool s2,.slice A2 k2 ca2,.slice B2 l2 cb2]) (evR L x):=(nm_put3b HNW.out HRR.out _ _ _).cb (by
   rw [hW9];exact ownz_cb (grownBy_putObj' _ _ _) (fun r e=>by cases e;exact⟨hD,_,hk3,rfl⟩))
  have he9:Ext w W9:=by
   rw [hW9];exact ownz_ext ((((HEW.out).setCell d7 _).setCell d7 _).setCell d7 _) d5 (grownBy_putObj' _ _ _) (fun r e=>by cases e;exact⟨hD,_,hk3,rfl⟩)
  show LeavesInM _ _ _ _ _ _ _ _ ((put3at W gr 0 (.bool s2) (.slice A2 k2 ca2) (.slice B2 l2 cb2)).putObj D (.deferred none))
  rw [←hW9];clear hW9 hk3 r0 r1 r2 rf0 rf1 rf2 t0 t1 t2 tf0 tf1 tf2;obtain⟨t0,t1,t2,-⟩:=aj h9;have HN9:=ZZ hn9;have HE9:=ZZ he9;clear h9 hn9 he9;refine⟨.agg #[.bool s2,.slice A2 k2 ca2,.slice B2 l2 cb2],by simp [results,Tryz.f45];go_simp,?_⟩;exact⟨_,rfl,HN9.out,HE9.out⟩
end Go.Proofs.YtkoaakefgacokaaGreatDoor
