/- slices.Backward at numbers: the iterator. Derivatives of polynomials. Printed by gen_qo.py. -/
import Derived.Test.YtaaoleakkaloeaaGreatDoorGRm
import Derived.Shelf.Abstract
import Derived.WalkKit
import Derived.OwnWalkIn
import Derived.TacticsInMore
import Derived.LoopNIn
import Derived.LoopIn
import Derived.Test.YtaaoleakkaloeaaGreatDoorGRj
import Derived.Deep.RegionHeld3
set_option linter.unusedVariables false
set_option maxRecDepth 100000
set_option maxHeartbeats 64000000
namespace Go.Proofs.YtaaoleakkaloeaaGreatDoor
open Go Go.RowKit Go.Shelf
attribute [local go_sem] Oper.semAt_some
theorem cell_block {W:World} {a:Addr} {v:Value} (h:W.cell? a=some v):∃o,W.heap[a.block]?=some o∧o.isCells=true:=by
 unfold World.cell? at h
 cases ho:W.heap[a.block]? with
 | none=>simp [ho] at h
 | some o=>exact⟨o,rfl,by cases o <;> simp_all [Obj.isCells]⟩
def Cb (W W':World):Prop:=∀(b j:Nat) (v:Value),W.cell? ⟨b,j,none⟩=some v→W'.cell? ⟨b,j,none⟩=some v
theorem Cb.of_ext {W W':World} (h:Ext W W'):Cb W W':=fun b j v hc=>ao h hc
theorem Cb.trans {A B C:World} (h:Cb A B) (k:Cb B C):Cb A C:=fun b j v hc=>k b j v (h b j v hc)
theorem Cb.step {w A B:World} {Z:Nat→Obj→Prop} (h:Cb w A) (k:KeepZ Z A B) (hz:∀i o,i<w.heap.size→A.heap[i]?=some o→Z i o):Cb w B:=fun b j v hc=>by
 have hA:=h b j v hc;obtain⟨o,ho,hoc⟩:=cell_block hA;obtain⟨o',ho',-⟩:=cell_block hc;have hlt:b<w.heap.size:=(Array.getElem?_eq_some_iff.1 ho').1;exact(World.cell?_of_block (a:=⟨b,j,none⟩) ((k.2 _ o ho hoc (hz _ o hlt ho)).trans ho.symm)).trans hA
theorem Wd.cb {W W':World} {v:Value} {n:Nat} (h:Wd W v n) (k:Cb W W'):Wd W' v n:=by
 obtain⟨A,cc,e,hc,hcl⟩:=h;refine⟨A,cc,e,hc,?_⟩
 rcases Nat.eq_zero_or_pos (dg n).length with h0|h0
 ·left;rw [List.length_eq_zero_iff.1 h0];rfl
 ·obtain⟨bl,o,hA,hce⟩:=hcl.at_ (by simpa using h0)
  right
  exact⟨bl,o,hA,fun j hj=>k _ _ _ (hce j hj)⟩
theorem Nm.cb {W W':World} {v:Value} {q:Rat} (h:Nm W v q) (k:Cb W W'):Nm W' v q:=by
 obtain⟨vn,vd,e,h1,h2⟩:=h;exact⟨vn,vd,e,h1.cb k,h2.cb k⟩
theorem Tri.cb {W W':World} {b j:Nat} {q:Rat} (h:Tri W b j q) (k:Cb W W'):Tri W' b j q:=by
 obtain⟨s,A,m,ca,B,n,cb,h1,h2,h3,h4⟩:=h;exact⟨s,A,m,ca,B,n,cb,k _ _ _ h1,k _ _ _ h2,k _ _ _ h3,h4.cb k⟩
def Cx (g:Nat) (W W':World):Prop:=∀(b j:Nat) (v:Value),b≠g→W.cell? ⟨b,j,none⟩=some v→W'.cell? ⟨b,j,none⟩=some v
def NoD (W:World) (g:Nat):Prop:=∀(j:Nat) (z:Int),W.cell? ⟨g,j,none⟩≠some (.int .u64 z)
theorem Cx.of_ext {g:Nat} {W W':World} (h:Ext W W'):Cx g W W':=fun b j v _ hc=>ao h hc
theorem Cx.step {g:Nat} {w A B:World} {Z:Nat→Obj→Prop} (h:Cx g w A) (k:KeepZ Z A B) (hz:∀i o,i<w.heap.size→i≠g→A.heap[i]?=some o→Z i o):Cx g w B:=fun b j v hne hc=>by
 have hA:=h b j v hne hc;obtain⟨o,ho,hoc⟩:=cell_block hA;obtain⟨o',ho',-⟩:=cell_block hc;have hlt:b<w.heap.size:=(Array.getElem?_eq_some_iff.1 ho').1;exact(World.cell?_of_block (a:=⟨b,j,none⟩) ((k.2 _ o ho hoc (hz _ o hlt hne ho)).trans ho.symm)).trans hA
theorem Wd.cx {g:Nat} {W W':World} {v:Value} {n:Nat} (h:Wd W v n) (k:Cx g W W') (hu:NoD W g):Wd W' v n:=by
 obtain⟨A,cc,e,hc,hcl⟩:=h;refine⟨A,cc,e,hc,?_⟩
 rcases Nat.eq_zero_or_pos (dg n).length with h0|h0
 ·left;rw [List.length_eq_zero_iff.1 h0];rfl
 ·obtain⟨bl,o,hA,hce⟩:=hcl.at_ (by simpa using h0)
  right
  refine⟨bl,o,hA,fun j hj=>k _ _ _ (fun hb=>?_) (hce j hj)⟩;have hj':j<(dg n).length:=by simpa using hj
  have h1:=hce j hj;rw [getD_map_u64 _ _ hj',hb] at h1;exact hu _ _ h1
theorem Nm.cx {g:Nat} {W W':World} {v:Value} {q:Rat} (h:Nm W v q) (k:Cx g W W') (hu:NoD W g):Nm W' v q:=by
 obtain⟨vn,vd,e,h1,h2⟩:=h;exact⟨vn,vd,e,h1.cx k hu,h2.cx k hu⟩
theorem Tri.cx {g:Nat} {W W':World} {b j:Nat} {q:Rat} (h:Tri W b j q) (k:Cx g W W') (hu:NoD W g) (hb:b≠g):Tri W' b j q:=by
 obtain⟨s,A,m,ca,B,n,cb,h1,h2,h3,h4⟩:=h;exact⟨s,A,m,ca,B,n,cb,k _ _ _ hb h1,k _ _ _ hb h2,k _ _ _ hb h3,h4.cx k hu⟩
def encB (x:Nat × Value × Rat):Array Value:=#[.int .i64 (x.1:Int),x.2.1]
def GotB (L:List Rat) (x:Nat × Value × Rat) (W:World):Prop:=Nm W x.2.1 x.2.2∧x.2.2 ∈ L
theorem drop_rev {L:List Rat} {j:Nat} {q:Rat} (h:L[j]?=some q):(L.drop (j+1)).reverse ++ [q]=(L.drop j).reverse:=by
 obtain⟨hj,rfl⟩:=List.getElem?_eq_some_iff.1 h;rw [List.drop_eq_getElem_cons hj,List.reverse_cons]
theorem back_in (g0:Nat) (n:Nat) (hn:1≤n) (l Bs b o cap:Nat) (L:List Rat) (hl:L.length≤1000000) (hcap:L.length≤cap) (w0:World) (hu0:NoD w0 g0) (hb0:b≠g0) (ht:∀i q,L[i]?=some q→Tri w0 b (o+i*3) q) (J:List (Nat × Value × Rat)→World→Prop) (hY:∀pre x W1,J pre W1→GotB L x W1→pre.length<L.length→YieldAt Fence.wide (n - 1) Tryz.prog l (encB x) W1 fun e W'=>e=.returned (.bool true)∧J (pre ++ [x]) W'∧KeepZ (fun k _=>(k<w0.heap.size∧k≠g0)∨k=Bs) W1 W') (W:World) (hcb:Cx g0 w0 W) (hBs:W.cell? ⟨Bs,0,none⟩=some (.slice (some ⟨b,o,none⟩) L.length cap)) (h0:J [] W):CallsIn Fence.wide n Tryz.prog 92 #[.func (.yield l) #[] #[],.pointer (some ⟨Bs,0,none⟩)] W fun e W'=>(∃v,e=.returned v)∧∃xs:List (Nat × Value × Rat),xs.map (fun x=>x.2.2)=L.reverse∧J xs W':=by
 have HL:=ZZ hl;have HT:=ZZ ht;have HY:=ZZ hY;have HCP:=ZZ hcap;have HU0:=ZZ hu0;have HB0:=ZZ hb0;obtain⟨m,hm⟩:∃m,L.length=m:=⟨_,rfl⟩;rw [hm] at hBs;have HM:=ZZ hm;have HCB:=ZZ hcb;clear hl ht hY hm hcb hcap hu0 hb0;have q3:IntKind.i64.wrap ((m:Int) - 1)=(m:Int) - 1:=by have h1:=HL.out;have h2:=HM.out;exact IntWalk.i64_in _ (by omega)
 refine callsIn_of_wp Tryz.func92 rfl trivial ?_ rfl
 simp only [Tryz.ntmps92,List.size_toArray,List.length_cons,List.length_nil,Nat.reduceAdd,Nat.reduceSub,Array.replicate_succ,Array.replicate_zero,List.push_toArray,List.append_toArray,List.nil_append,List.cons_append]
 gi_wp2
 gi_loopw [3] (fun p wr=>∃(k:Nat) (pre:List (Nat × Value × Rat)),p=.int .i64 ((k:Int) - 1)∧Hid (k≤m)∧Hid (pre.map (fun x=>x.2.2)=(L.drop k).reverse)∧J pre wr∧Hid (Cx g0 w0 wr)∧wr.cell? ⟨Bs,0,none⟩=some (.slice (some ⟨b,o,none⟩) m cap)) (fun p _=>(intOf p+1).toNat)
 case atStart=>exact⟨m,[],rfl,ZZ (Nat.le_refl _),ZZ (by rw [List.drop_eq_nil_of_le (by rw [HM.out];exact Nat.le_refl _)];rfl),h0,HCB,hBs⟩
 case round=>
  obtain⟨k,pre,rfl,HK,HP,hJ,HC,hb⟩:=hrel
  rcases Nat.eq_zero_or_pos k with hz|hz
  ·subst hz
   have q1:((0:Nat):Int) - 1 = -1:=rfl;rw [q1]
   gi_wp2
   go_end0
   exact⟨⟨_,rfl⟩,pre,HP.out,hJ⟩
  ·obtain⟨j,rfl⟩:∃j,k=j+1:=⟨k - 1,by omega⟩
   have q1:((j+1:Nat):Int) - 1=(j:Int):=by omega
   rw [q1];have hjL:j<L.length:=by have h1:=HK.out;have h2:=HM.out;omega
   obtain⟨q,hq⟩:∃q,L[j]?=some q:=⟨L[j]'hjL,List.getElem?_eq_getElem _⟩;obtain⟨s,A,k1,ca,B,l1,cb,c0,c1,c2,hn⟩:=(HT.out j q hq).cx HC.out HU0.out HB0.out
   obtain⟨fn,tmps,assign,body,hy,hR⟩:=HY.out pre (j,.agg #[.bool s,.slice A k1 ca,.slice B l1 cb],q) _ hJ ⟨hn,List.mem_of_getElem? hq⟩ (by
    have h1:=congrArg List.length HP.out;rw [List.length_map,List.length_reverse,List.length_drop] at h1;have h2:=HK.out;have h3:=HM.out
    omega)
   have HQ:=ZZ hq;have HJL:=ZZ hjL;have q4:(j:Int)<(m:Int):=by have h2:=HM.out;omega
   have q5:(0:Int)≤(j:Int):=by omega
   have q6:IntKind.i64.wrap ((j:Int) - 1)=(j:Int) - 1:=by have h1:=HL.out;exact IntWalk.i64_in _ (by omega)
   clear hq hn hjL
   dsimp only [encB] at hy
   gi_wp2
   refine hR.mono ?_;rintro e W3 ⟨rfl,hJ3,hk3⟩
   have hb3:W3.cell? ⟨Bs,0,none⟩=some (.slice (some ⟨b,o,none⟩) m cap):=by
    obtain⟨ob,hob,hoc⟩:=cell_block hb;rw [World.cell?_of_block ((hk3.2 _ ob hob hoc (.inr rfl)).trans hob.symm)];exact hb
   have HC3:=ZZ (HC.out.step hk3 (fun i o hi hne _=>.inl ⟨hi,hne⟩));have HJ3:=ZZ hJ3;clear hk3 hy hR c0 c1 c2 hb hJ
   gi_wp2
   go_roundw
   case rel=>exact⟨j,_,rfl,ZZ (by have:=HK.out;omega),ZZ (by rw [List.map_append,HP.out];exact drop_rev HQ.out),HJ3.out,HC3,hb3⟩
   case measure=>simp [intOf]
theorem back_nil_in (n:Nat) (l Bs cap:Nat) (A:Option Addr) (J:List (Nat × Value × Rat)→World→Prop) (W:World) (hBs:W.cell? ⟨Bs,0,none⟩=some (.slice A 0 cap)) (h0:J [] W):CallsIn Fence.wide n Tryz.prog 92 #[.func (.yield l) #[] #[],.pointer (some ⟨Bs,0,none⟩)] W fun e W'=>(∃v,e=.returned v)∧J [] W':=by
 refine callsIn_of_wp Tryz.func92 rfl trivial ?_ rfl
 simp only [Tryz.ntmps92,List.size_toArray,List.length_cons,List.length_nil,Nat.reduceAdd,Nat.reduceSub,Array.replicate_succ,Array.replicate_zero,List.push_toArray,List.append_toArray,List.nil_append,List.cons_append]
 gi_wp2
 gi_loopw [3] (fun p wr=>p=.int .i64 (-1)∧J [] wr) (fun _ _=>0)
 case atStart=>exact⟨rfl,h0⟩
 case round=>
  obtain⟨rfl,hJs⟩:=hrel
  gi_wp2
  go_end0
  exact⟨⟨_,rfl⟩,hJs⟩
theorem back_stops (g0:Nat) (n:Nat) (hn:1≤n) (v:Value) (L:List Rat) (hl:L.length≤1000000) (w0:World) (hp:Pl w0 v L) (hu0:NoD w0 g0) (hv:∀b o n c,v=.slice (some ⟨b,o,none⟩) n c→L≠[]→b≠g0) (w:World) (hw:Ext w0 w) (Bs:Nat) (hBs:w.cell? ⟨Bs,0,none⟩=some v):SeqR Tryz.prog n 92 #[.pointer (some ⟨Bs,0,none⟩)] encB (GotB L) (fun k _=>(k<w0.heap.size∧k≠g0)∨k=Bs) (fun xs _=>xs.map (fun x=>x.2.2)=L.reverse) L.length w:=by
 intro l J W hW hJ hY h0;have hb:=ao hW hBs;obtain⟨A,cap,rfl,hc,hA⟩:=hp
 by_cases hL:L=[]
 ·subst hL
  refine(back_nil_in n l Bs cap A J W hb h0).mono ?_;rintro e W' ⟨he,hj⟩;exact⟨he,[],rfl,hj⟩
 ·rcases hA with ⟨rfl,h⟩|⟨b,o,rfl,ht⟩
  ·exact absurd h hL
  ·exact back_in g0 n hn l Bs b o cap L hl hc w0 hu0 (hv _ _ _ _ rfl hL) ht J hY W (Cx.of_ext (al hw hW)) hb h0
theorem backward_c (v:Value) (hv:∃A k c,v=.slice A k c) (w:World):Calls Tryz.prog 49 #[v] w fun e w'=>e=.returned (.func (.func 92) #[] #[.pointer (some ⟨w.heap.size,0,none⟩)])∧w'=w.alloc (.cells #[v] 25):=by
 obtain⟨A,k,c,rfl⟩:=hv
 go_enter Tryz.func49,Tryz.ntmps49
 go_wp2_with fail;go_ret
 exact⟨rfl,rfl⟩
end Go.Proofs.YtaaoleakkaloeaaGreatDoor
set_option linter.unusedVariables false
set_option maxRecDepth 100000
set_option maxHeartbeats 64000000
namespace Go.Proofs.YtaaoleakkaloeaaGreatDoor
open Go.RowKit
set_option linter.unusedSimpArgs false
section
variable {P:Program} {md:Region.Mode} {ops:Array Oper} {Q:Exit→Act→World→Prop} {S:World→Prop}
theorem take_p {i:Nat} (d:Tmp) {oi:Oper} {v:Value} {fuel:Nat} {listed:Array Bool} {a:Act} {w:World} (hi:ops[i]?=some oi) (hd:oi.dst=some d) (hs:Region.noSelect ops=true) (hf:Region.free md ops listed i=true) (hr:(Region.ready md ops listed).contains i=true) (hQ:∀c a w,Q (.panic c) (a.put (some d) v) w→Q (.panic c) a w) (hy:YieldsIf P ops S oi v a) (hS:S w) (h:wpAnyH P md ops Q S fuel (listed.setIfInBounds i true) (a.put (some d) v) w):wpAnyH P md ops Q S (fuel+1) listed a w:=by
 rw [←hd] at hQ h;exact wpAnyH_take hi hs hf hr hQ hy hS h
theorem take_a (i:Nat) (d:Tmp) {oi:Oper} {v:Value} {fuel:Nat} {listed:Array Bool} {a a':Act} {w:World} (h:wpAnyH P md ops Q S fuel (listed.setIfInBounds i true) a' w) (hi:ops[i]?=some oi:=by exact rfl) (hd:oi.dst=some d:=by exact rfl) (hs:Region.noSelect ops=true:=by kernel_rfl) (hf:Region.free md ops listed i=true:=by kernel_rfl) (hr:(Region.ready md ops listed).contains i=true:=by kernel_rfl) (hQ:∀c a w,Q (.panic c) (a.put (some d) v) w→Q (.panic c) a w:=by exact fun _ _ _ h=>h) (hy:YieldsIf P ops S oi v a:=by refine Or.inl ⟨rfl,?_⟩;intro w hSw;(try dsimp only at hSw);go_simp;try with_reducible rfl) (hS:S w:=by assumption) (ha:a.put (some d) v=a':=by simp only [Act.put,List.setIfInBounds_toArray,List.set_cons_zero,List.set_cons_succ] <;> rfl):wpAnyH P md ops Q S (fuel+1) listed a w:=by
 subst ha;exact take_p (i:=i) d hi hd hs hf hr hQ hy hS h
theorem call_p {fuel:Nat} {listed:Array Bool} {a:Act} {w:World} {i:Nat} (d:Option Tmp) {o:Oper} (ho:ops[i]?=some o) (hd:o.dst=d) (hr:Region.ready md ops listed=[i]) (h:∀K':Act→World→Prop,Shut (∀a w,S w→(S w→wpAnyH P md ops Q S fuel (listed.setIfInBounds i true) a w)→K' a w)→if Region.wanted o (yielded ops a.tmps)=true then Oper.wp P o a w K' Q else K' (a.put d undef) w):wpAnyH P md ops Q S (fuel+1) listed a w:=by
 rw [←hd] at h;exact wpAnyH_ready hr (by simp) (AllReadyH.cons ho h AllReadyH.nil)
end
theorem oper_append1 {P:Program} {o:Oper} {a:Act} {w w':World} {K:Act→World→Prop} {Q:Exit→Act→World→Prop} {T1 T2:TypeId} {ad:Addr} {c:Nat} {v v':Value} (s x:Operand) (ho:o.op=.call { callee:=.builtin .append,args:=#[s,x],argTypes:=#[T1,T2] }) (hs:a.eval s=v) (hx:a.eval x=.slice (some ad) 1 c) (hr:(Builtin.append_ #[T1,T2] o.type #[v,.slice (some ad) 1 c]).run P w=.ok v' w') (hk:K (a.put o.dst v') w'):Oper.wp P o a w K Q:=by
 unfold Oper.wp execOp
 simp only [ho,resolve,invoke,builtin,Sem.run_bind,Sem.run_pure,Result.andThen_ok,List.map_toArray,List.map_cons,List.map_nil,hs,hx,hr]
 exact hk
def derU (p:List Rat) (j:Nat):List Rat:=((List.range j).map fun i=>co p i*((i:Int):Rat)).tail
theorem derU_succ (p:List Rat) {j:Nat} (h:0<j):derU p (j+1)=derU p j ++ [co p j*((j:Int):Rat)]:=by
 unfold derU;rw [List.range_succ,List.map_append,List.tail_append_of_ne_nil (by simp;omega)]
 rfl
theorem derU_len (p:List Rat) (j:Nat):(derU p j).length=j - 1:=by simp [derU]
theorem derU_get (p:List Rat) (j k:Nat):(derU p j)[k]?=if k+1<j then some (co p (k+1)*(((k+1:Nat):Int):Rat)) else none:=by
 unfold derU;rw [List.getElem?_tail,List.getElem?_map]
 by_cases h:k+1<j
 ·rw [List.getElem?_range h,if_pos h];rfl
 ·rw [List.getElem?_eq_none (by simpa using h),if_neg h];rfl
def derivF (p:List Rat):List Rat:=trimF (derU p p.length)
theorem co_deriv (p:List Rat) (k:Nat):co (derivF p) k=dco (co p) k:=by
 unfold derivF;rw [co_trim]
 show ((derU p p.length)[k]?).getD 0=_
 rw [derU_get]
 show _=co p (k+1)*((k+1:Nat):Rat)
 split
 ·rfl
 ·rw [co_ge (p:=p) (i:=k+1) (by omega)]
  show (0:Rat)=0*_
  rw [Rat.zero_mul]
theorem deriv_p (M:Nat) (hM0:0<M) (hM:M+64≤1099511627776) (vp:Value) (p:List Rat) (hl:p.length≤1000000) (w:World) (hp:Pl w vp p) (hb:∀q ∈ p,Bq M q):Calls Tryz.prog 57 #[vp] w fun e w'=>∃v',e=.returned v'∧PlN w.heap.size w' v' (derivF p)∧Ext w w':=by
 obtain⟨A,cap,rfl,hc,hA⟩:=id hp;obtain⟨n,hn⟩:∃n,p.length=n:=⟨_,rfl⟩;rw [hn];have HNL:=ZZ hn;have HL:=ZZ hl;have HB:=ZZ hb;have HM:=ZZ hM;have HA:=ZZ hA;clear hp hl hb hM hA hc hn
 go_enter Tryz.func57,Tryz.ntmps57
 go_wp2_with fail
 go_loopg [8,3] n (fun k i u wr=>∃j,Hid (j+k=n)∧i=.int .i64 (j:Int)∧Hid (OwnP wr w.heap.size u (derU p j))∧Hid (Ext w wr))
 case atStart=>exact⟨0,ZZ (Nat.zero_add _),rfl,ZZ (OwnP.nil _ _),ZZ (af _)⟩
 case round=>
  obtain⟨j,HJ,rfl,HO,HE⟩:=hrel;rename World=>WR
  rcases Nat.eq_zero_or_pos gk with hz|hz
  ·subst hz
   obtain rfl:j=n:=HJ.out;have q1:decide ((j:Int)<(j:Int))=false:=decide_eq_false (Int.lt_irrefl _);go_wp2_with fail;refine(trim_q _ (derU p j) (by have h1:=HL.out;have h2:=HNL.out;rw [derU_len];omega) _ HO.out.pl).mono ?_;rintro e w' ⟨v',rfl,hn,kk⟩;rw [show trimF (derU p j)=derivF p by unfold derivF;rw [HNL.out]] at hn;have HN:=ZZ hn;have HK2:=ZZ kk;clear hn kk;go_wp2_with fail;go_ret;refine⟨_,rfl,?_,al HE.out HK2.out⟩
   rcases HN.out with hn|⟨g,hg,hn⟩
   ·exact .inl hn
   ·exact .inr ⟨g,Nat.le_trans HE.out.size hg,hn⟩
  ·have hjn:j<n:=by have:=HJ.out;omega
   have hjp:j<p.length:=by rw [HNL.out];exact hjn
   have q1:decide ((j:Int)<(n:Int))=true:=decide_eq_true (by omega);have q1':decide (j<n)=true:=decide_eq_true hjn;have q4:(j:Int)<(n:Int):=by omega
   have q5:(0:Int)≤(j:Int):=by omega
   rcases HA.out with ⟨-,h5⟩|⟨b,o,rfl,ht⟩
   ·rw [h5] at hjp;simp at hjp
   have hq:p[j]?=some (co p j):=by unfold co;rw [List.getElem?_eq_getElem hjp];rfl
   obtain⟨s1,A1,k1,ca1,B1,l1,cb1,c0,c1,c2,hcn⟩:=(ht j _ hq).mono HE.out;have BC:=ZZ (HB.out _ (List.mem_of_getElem? hq));have BJ:=ZZ (show Bq 64 ((j:Int):Rat) from bq_int _ (by omega) (by have h1:=HL.out;omega));have E6:=ZZ (ac WR (.cells #[.bool s1,.slice A1 k1 ca1,.slice B1 l1 cb1] 36));have NC:=ZZ (hcn.mono (ac WR (.cells #[.bool s1,.slice A1 k1 ca1,.slice B1 l1 cb1] 36)));have RC:=ZZ (heap_alloc_new WR (.cells #[.bool s1,.slice A1 k1 ca1,.slice B1 l1 cb1] 36));have HZ:=ZZ hz;have HJN:=ZZ hjp;clear hq hcn ht hz hjp
   go_upto_region 5 with (fail)
   generalize World.alloc WR (.cells #[.bool s1,.slice A1 k1 ca1,.slice B1 l1 cb1] _)=W6 at *
   have HGC:=ZZ (show ∀g,u3.ownBlock=some g→g≠WR.heap.size from fun g hg e=>by
    obtain⟨xs,ho,-⟩:=HO.out
    have:=(ho.lt g hg).2
    omega)
   generalize WR.heap.size=gc at *
   rcases Nat.eq_zero_or_pos j with h0|h0
   ·subst h0
    have z0:decide ((0:Int)<((0:Nat):Int))=false:=rfl;go_wp2_with fail
    go_roundg (gk - 1)
    case measure=>have:=HZ.out;omega
    case rel=>exact⟨1,ZZ (by have:=HJ.out;have:=HZ.out;omega),rfl,ZZ (HO.out.mono E6.out),ZZ (al HE.out E6.out)⟩
   ·have z0:decide ((0:Int)<(j:Int))=true:=decide_eq_true (by omega)
    have z0':decide (0<j)=true:=decide_eq_true h0;have H0:=ZZ h0;clear h0
    have HC:=ZZ (show ∀W,Ext W6 W→W.cell? ⟨gc,0,none⟩=some (.bool s1)∧W.cell? ⟨gc,1,none⟩=some (.slice A1 k1 ca1)∧W.cell? ⟨gc,2,none⟩=some (.slice B1 l1 cb1) from fun W k=>by
     obtain⟨y0,y1,y2,-⟩:=aj ((k.block _ (lt_of_block RC.out)).trans RC.out);exact⟨y0,y1,y2⟩)
    clear c0 c1 c2
    go_upto_region 6 with (fail)
    have hun:undef=.tuple #[]:=rfl;refine wp_region_noPanic ?_;refine wp_region_held_drew (S:=fun W=>W.cell? ⟨gc,0,none⟩=some (.bool s1)∧W.cell? ⟨gc,1,none⟩=some (.slice A1 k1 ca1)∧W.cell? ⟨gc,2,none⟩=some (.slice B1 l1 cb1)) (by kernel_rfl) (HC.out _ (ae _)) (fun hHeld=>?_);refine take_a 0 15 ?_;refine take_a 1 16 ?_;refine take_a 2 17 ?_;refine call_p (i:=3) (some 18) rfl rfl (by kernel_rfl) (fun K hK=>?_)
    go_simp
    go_at_call 25
    refine(int_q (j:Int) (by have h1:=HL.out;have h2:=HJN.out;have h3:=HNL.out;omega) (by have h1:=HL.out;have h2:=HJN.out;have h3:=HNL.out;omega) _).mono ?_;rintro e w4 ⟨v4,rfl,h4,kk4⟩;obtain⟨s4,A4,k4,ca4,B4,l4,cb4,rfl⟩:=h4.form2;have H4:=ZZ h4;have hx1:=ZZ (show Ext W6 w4 from al (ae _) kk4);clear h4 kk4
    try go_wp2_with fail
    refine hK.out _ _ (HC.out _ hx1.out) (fun hHeld=>?_);clear hK K
    try simp only [Act.put,lyA,lyB,lyC]
    refine call_p (i:=4) (some 19) rfl rfl (by kernel_rfl) (fun K hK=>?_)
    go_simp
    go_at_call 51
    refine(mul_q (M+64) HM.out _ _ (co p j) ((j:Int):Rat) _ (NC.out.mono hx1.out) H4.out (BC.out.mono (by omega)) (BJ.out.mono (by omega))).mono ?_;rintro e w5 ⟨v5,rfl,h5,kk5⟩;obtain⟨s5,A5,k5,ca5,B5,l5,cb5,rfl⟩:=h5.form2;have H5:=ZZ (h5.mono (ac w5 (.cells #[.bool s5,.slice A5 k5 ca5,.slice B5 l5 cb5] 36)));have hx2:=ZZ (al hx1.out kk5);have hx3:=ZZ (al hx2.out (ac w5 (.cells #[.bool s5,.slice A5 k5 ca5,.slice B5 l5 cb5] 36)));obtain⟨xs,hown,hxs⟩:=HO.out.mono (al E6.out hx3.out);have HXS:=ZZ hxs;have HOWN:=ZZ hown;have C3:=ZZ (cells3_new w5 (.bool s5) (.slice A5 k5 ca5) (.slice B5 l5 cb5) 36);clear h5 kk5 hown hxs
    try go_wp2_with fail
    refine hK.out _ _ (HC.out _ hx2.out) (fun hHeld=>?_);clear hK K
    try simp only [Act.put,lyA,lyB,lyC]
    refine call_p (i:=5) (some 20) rfl rfl (by kernel_rfl) (fun K hK=>?_)
    go_simp
    refine hK.out _ _ (HC.out _ hx3.out) (fun hHeld=>?_);clear hK K
    try simp only [Act.put,lyA,lyB,lyC]
    refine call_p (i:=6) (some 21) rfl rfl (by kernel_rfl) (fun K hK=>?_);refine(if_pos (show Region.wanted _ _=true from rfl)).mpr ?_;obtain⟨v7,w7,hr7,hown7,hgrow7⟩:=run_append1 (w5.alloc (.cells #[.bool s5,.slice A5 k5 ca5,.slice B5 l5 cb5] 36)) w.heap.size 25 _ (derU p j).length xs HOWN.out ⟨w5.heap.size,0,none⟩ 1 [.bool s5,.slice A5 k5 ca5,.slice B5 l5 cb5] rfl C3.out (by intro u hu;simp at hu;rcases hu with rfl|rfl|rfl <;> rfl) (by intro u hu z he;subst he;simp at hu) (by have h1:=HL.out;have h2:=HJN.out;rw [derU_len];omega) (al HE.out (al E6.out hx3.out)).size;have HOWN7:=ZZ hown7;have HGR7:=ZZ hgrow7;refine oper_append1 (.tmp 15) (.tmp 20) rfl rfl rfl hr7 ?_;clear hown7 hgrow7 hr7;refine hK.out _ _ (by obtain⟨y0,y1,y2⟩:=HC.out _ hx3.out;exact⟨HGR7.out.cell y0 (fun e=>HGC.out _ e.symm rfl),HGR7.out.cell y1 (fun e=>HGC.out _ e.symm rfl),HGR7.out.cell y2 (fun e=>HGC.out _ e.symm rfl)⟩) (fun hHeld=>?_);clear hK K
    try simp only [Act.put,lyA,lyB,lyC]
    refine take_a 7 3 ?_;refine wpAnyH_done (by kernel_rfl) ?_ _;refine NoPanic.normal ?_;have HP7:=ZZ (OwnP.snoc HOWN.out HXS.out H5.out HGR7.out HOWN7.out);have E7:=ZZ (ext_grown1 (al HE.out (al E6.out hx3.out)) HOWN.out HGR7.out);go_wp2_with fail
    go_roundg (gk - 1)
    case measure=>have:=HZ.out;omega
    case rel=>
     refine⟨j+1,ZZ (by have:=HJ.out;have:=HZ.out;omega),by have h1:=HL.out;have h2:=HJN.out;rw [IntWalk.wrap64_in _ ⟨by omega,by omega⟩];rfl,ZZ ?_,ZZ E7.out⟩;rw [derU_succ p H0.out];exact HP7.out
end Go.Proofs.YtaaoleakkaloeaaGreatDoor
