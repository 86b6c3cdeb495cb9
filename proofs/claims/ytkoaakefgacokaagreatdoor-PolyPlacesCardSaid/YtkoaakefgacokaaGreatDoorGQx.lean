/- A range over a function whose rounds never leave: what is handed to a round holds in its world; what the iterator says in the end speaks of the last world. -/
import Derived.Test.YtkoaakefgacokaaGreatDoorGTf
import Derived.RangeFuncNested
import Derived.RangeFuncBound
import Derived.RangeFuncLeaves
import Derived.Test.YtkoaakefgacokaaGreatDoorGQv
set_option linter.unusedVariables false
set_option linter.unusedSimpArgs false
set_option maxRecDepth 100000
set_option maxHeartbeats 64000000
namespace Go.Proofs.YtkoaakefgacokaaGreatDoor
open Go.RowKit
theorem ext_grows {A B:World} (h:Ext A B):A.grownBy B none:=⟨h.os,h.tape,h.output,h.size,fun k hk _=>h.block k hk⟩
def KeepZ (Z:Nat→Obj→Prop) (A B:World):Prop:=A.heap.size≤B.heap.size∧∀k o,A.heap[k]?=some o→o.isCells=true→Z k o→B.heap[k]?=some o
theorem KeepZ.trans {Z:Nat→Obj→Prop} {A B C:World} (h:KeepZ Z A B) (k:KeepZ Z B C):KeepZ Z A C:=⟨Nat.le_trans h.1 k.1,fun i o hi ho hz=>k.2 i o (h.2 i o hi ho hz) ho hz⟩
theorem KeepZ.of_ext {Z:Nat→Obj→Prop} {A B:World} (h:Ext A B):KeepZ Z A B:=⟨h.size,fun i o hi _ _=>(h.block i (Array.getElem?_eq_some_iff.1 hi).1).trans hi⟩
theorem KeepZ.turn {Z:Nat→Obj→Prop} {A:World} {l:Nat} {o:Obj} (o':Obj) (h:A.heap[l]?=some o) (ho:o.isCells=false):KeepZ Z A (A.putObj l o'):=
 ⟨by simp,fun i u hi hu _=>by
  by_cases e:i=l
  ·subst e;rw [h] at hi;cases hi;rw [ho] at hu;cases hu
  ·exact(World.putObj_heap_other e).trans hi⟩
def SeqR {α:Type} (P:Program) (n:Nat) (g:Nat) (lb:Array Value) (encs:α→Array Value) (R:α→World→Prop) (Z:Nat→Obj→Prop) (S:List α→World→Prop) (N:Nat) (w:World):Prop:=
 ∀(l:Nat) (J:List α→World→Prop) (W:World),Ext w W→(∀pre A B,J pre A→Ext A B→J pre B)→(∀pre x W1,J pre W1→R x W1→pre.length<N→YieldAt Fence.wide (n - 1) P l (encs x) W1 fun e W'=>e=.returned (.bool true)∧J (pre ++ [x]) W'∧KeepZ Z W1 W')→J [] W→CallsIn Fence.wide n P g (#[.func (.yield l) #[] #[]] ++ lb) W fun e W'=>(∃v,e=.returned v)∧∃xs,S xs W'∧J xs W'
def lrec (fn:FuncId) (tmps:Array Value) (ps:Array Tmp) (assign body:Code) (B:Nat) (st:LoopState) (pe:Option Code):Loop:=
 { state:=st,pending:=pe,fn,tmps,params:=ps,assign,body,defers:=B }
theorem wpIn_rangeR {α:Type} {P:Program} {n:Nat} {g:Operand} {ps:Array Tmp} {assign body:Code} {Q:Exit→Act→World→Prop} {a:Act} {w w0:World} {gf:Nat} {lb:Array Value} (hg:a.eval g=.func (.func gf) #[] lb) (eg:∀args w,(callFunc gf args).run P w=.ok (.enter gf args) w) {encs:α→Array Value} {R:α→World→Prop} {Z:Nat→Obj→Prop} {S:List α→World→Prop} {N:Nat} (hseq:SeqR P (n - 1) gf lb encs R Z S N w0) (hw:Ext w0 w) (hps:∀x,(encs x).size=ps.size) (I:List α→World→Prop) (hI:OwnFrom w.heap.size I) (h0:I [] w) (Ax:α→Act→World→Prop) (hAx:∀x a',OwnFrom w.heap.size (fun (_:Unit) W=>Ax x a' W)) (hS:OwnFrom w.heap.size S) (hassign:∀(l:Nat) (pre:List α) (x:α) (W:World) (K:Act→World→Prop),I pre W→R x W→(∀a' W',Ext W W'→Ax x a' W'→K a' W')→assign.wpIn (Fence.wide.inRound l) (n - 1 - 1) P (Exit.then K (fun _ _ _=>False)) { tmps:=(ps.zip (encs x)).foldl (fun t (p,v)=>t.setIfInBounds p v) a.tmps,defers:=[] } W) (hbody:∀(l:Nat) (pre:List α) (x:α) (a':Act) (W:World),I pre W→Ax x a' W→pre.length<N→body.wpIn (Fence.wide.inRound l) (n - 1 - 1) P (fun e _ W'=>e=.normal∧KeepsFrom w.heap.size W W'∧KeepZ Z W W'∧I (pre ++ [x]) W') a' W) (hdone:∀(D:Nat) (xs:List α) (W:World),w.heap.size≤D→S xs W→I xs W→W.heap[D]?=some (.deferred (some []))→Q .normal { a with defers:={ target:=.collected D,args:=#[] } :: a.defers } W):(Code.rangeFunc g ps assign body).wpIn Fence.wide n P Q a w:=by
 refine wpIn_rangeFunc fun fn hfn=>?_;have size1:∀o:Obj,(w.alloc o).heap.size=w.heap.size+1:=fun o=>World.size_alloc w o;obtain⟨W1,hW1⟩:∃W1,W1=(w.alloc (.deferred (some []))).alloc (.loop (lrec fn a.tmps ps assign body w.heap.size .ready none)):=⟨_,rfl⟩;have x1:Ext w W1:=by rw [hW1];exact al (ab _ _) (ab _ _)
 have hL:W1.heap[w.heap.size+1]?=some (.loop (lrec fn a.tmps ps assign body w.heap.size .ready none)):=by
  rw [hW1,←size1 (.deferred (some []))];exact World.alloc_heap_new _ _
 have hD:W1.heap[w.heap.size]?=some (.deferred (some [])):=by
  rw [hW1];exact((ab (w.alloc (.deferred (some []))) _).block _ (by rw [size1];omega)).trans (World.alloc_heap_new w _)
 have hI1:I [] W1:=hI _ _ _ _ h0 (ext_grows x1) (fun r e=>by cases e);refine⟨w.heap.size+1,[{ target:=.collected w.heap.size,args:=#[] }],W1,{ target:=.fn (.func gf) lb,args:=#[.func (.yield (w.heap.size+1)) #[] #[]] },W1,gf,#[.func (.yield (w.heap.size+1)) #[] #[]] ++ lb,W1,?_,?_,fun _ _=>trivial,?_,fun h=>(by cases h),?_⟩
 ·rw [hW1];exact run_enterLoop_outer _ _ _ _ _
 ·simp only [resolve,hg];simp [go_sem]
 ·simp [invoke,go_sem,eg]
 ·refine(hseq (w.heap.size+1) (fun pre W=>I pre W∧W.heap[w.heap.size+1]?=some (.loop (lrec fn a.tmps ps assign body w.heap.size .ready none))∧W.heap[w.heap.size]?=some (.deferred (some []))) W1 (al hw x1) (fun pre A B h k=>⟨hI _ _ _ _ h.1 (ext_grows k) (fun r e=>by cases e),(k.block _ (Array.getElem?_eq_some_iff.1 h.2.1).1).trans h.2.1,(k.block _ (Array.getElem?_eq_some_iff.1 h.2.2).1).trans h.2.2⟩) ?_ ⟨hI1,hL,hD⟩).mono ?_
  ·rintro pre x W ⟨hi,hl,hk⟩ hr hlen
   refine⟨fn,_,assign,body,run_yield (args:=encs x) hl (hps x),roundIn_of_wpIn hfn (hassign _ pre x W _ hi hr fun a' Wa ka hax=>?_)⟩;have hia:I pre Wa:=hI _ _ _ _ hi (ext_grows ka) (fun r e=>by cases e);have hla:=(ka.block _ (Array.getElem?_eq_some_iff.1 hl).1).trans hl;have hka:=(ka.block _ (Array.getElem?_eq_some_iff.1 hk).1).trans hk;have hlt:w.heap.size+1<Wa.heap.size:=(Array.getElem?_eq_some_iff.1 hla).1;refine⟨_,run_beginRound hla rfl,?_⟩;generalize hWb:Wa.putObj (w.heap.size+1) _=Wb;have hgb:Wa.grownBy Wb (some (w.heap.size+1)):=by rw [←hWb];exact grownBy_putObj' _ _ _
   have hrow:∀r,some (w.heap.size+1)=some r→w.heap.size≤r∧∃o:Obj,Wa.heap[r]?=some o∧o.isCells=false:=fun r e=>by cases e;exact⟨by omega,_,hla,rfl⟩
   have hlb:Wb.heap[w.heap.size+1]?=some (.loop { lrec fn a.tmps ps assign body w.heap.size .ready none with state:=.busy }):=by rw [←hWb];exact World.putObj_heap_same hlt
   have hkb:Wb.heap[w.heap.size]?=some (.deferred (some [])):=by rw [←hWb];exact(World.putObj_heap_other (by omega)).trans hka
   have hzb:KeepZ Z W Wb:=(KeepZ.of_ext ka).trans (by rw [←hWb];exact KeepZ.turn _ hla rfl);refine wpIn_mono (hbody _ pre x a' Wb (hI _ _ _ _ hia hgb hrow) (hAx x a' () _ _ _ hax hgb hrow) hlen) ?_;rintro e a3 W3 ⟨rfl,hkf,hz,hi3⟩;have hl3:=hkf.same _ _ (by omega) hlb rfl;have hk3:=hkf.same _ _ (Nat.le_refl _) hkb rfl;refine⟨_,_,run_endRound none hl3,rfl,⟨hI _ _ _ _ hi3 (grownBy_putObj' _ _ _) (fun r e=>by cases e;exact⟨by omega,_,hl3,rfl⟩),?_,?_⟩,hzb.trans (hz.trans (KeepZ.turn _ hl3 rfl))⟩
   ·exact World.putObj_heap_same (Array.getElem?_eq_some_iff.1 hl3).1
   ·exact(World.putObj_heap_other (by omega)).trans hk3
  ·rintro e W2 ⟨⟨v,rfl⟩,xs,hs,hi,hl,hk⟩
   have hrow:∀r,some (w.heap.size+1)=some r→w.heap.size≤r∧∃o:Obj,W2.heap[r]?=some o∧o.isCells=false:=fun r e=>by cases e;exact⟨by omega,_,hl,rfl⟩
   refine⟨none,_,run_endLoop hl (by simp [lrec]),hdone _ xs _ (Nat.le_refl _) (hS _ _ _ _ hs (grownBy_putObj' _ _ _) hrow) (hI _ _ _ _ hi (grownBy_putObj' _ _ _) hrow) ?_⟩;exact(World.putObj_heap_other (by omega)).trans hk
theorem divU_len (n:Nat) (quo rest q:List Rat):(divU n quo rest q).1.length=quo.length∧(divU n quo rest q).2.length≤rest.length:=by
 induction n generalizing quo rest with
 | zero=>exact⟨rfl,Nat.le_refl _⟩
 | succ n ih=>
  unfold divU
  split
  ·exact⟨rfl,Nat.le_refl _⟩
  ·obtain⟨h1,h2⟩:=ih (quo.set (rest.length - q.length) (topF rest / topF q)) (nextR rest q)
   refine⟨by rw [h1,List.length_set],Nat.le_trans h2 ?_⟩;unfold nextR
   have:=trim_le (lesL rest q (rest.length - q.length) (topF rest / topF q) q.length)
   rwa [les_len] at this
theorem div_len (p q:List Rat):(divF p q).1.length≤p.length+1∧(divF p q).2.length≤p.length:=by
 obtain⟨h1,h2⟩:=divU_len ((trimF p).length+1) (List.replicate ((trimF p).length+1 - (trimF q).length) 0) (trimF p) (trimF q);have h3:=trim_le p;refine⟨?_,Nat.le_trans h2 h3⟩;have h4:=trim_le (divU ((trimF p).length+1) (List.replicate ((trimF p).length+1 - (trimF q).length) 0) (trimF p) (trimF q)).1;rw [h1,List.length_replicate] at h4;have h5:(divF p q).1.length≤(trimF p).length+1 - (trimF q).length:=h4;omega
theorem scale_len (p:List Rat) (x:Rat):(scaleF p x).length≤p.length:=by
 have:=trim_le (p.map (·*x));rwa [List.length_map] at this
theorem monic_len (p:List Rat):(monicF p).length≤p.length:=by
 unfold monicF
 split
 ·exact Nat.zero_le _
 ·exact Nat.le_trans (scale_len _ _) (trim_le p)
theorem trim_monic (p:List Rat):trimF (monicF p)=monicF p:=by
 unfold monicF
 split
 ·rfl
 ·exact trim_trim _
def comU:Nat→List Rat→List Rat→List Rat
 | 0,p,_=>p
 | n+1,p,q=>if q=[] then p else comU n q (monicF (divF p q).2)
def commonF (p q:List Rat):List Rat:=comU (q.length+1) (monicF p) (monicF q)
def comB (M:Nat):Nat→List Rat→List Rat→Bool
 | 0,_,q=>q.isEmpty
 | n+1,p,q=>q.isEmpty || (divOk M p q && smB M (divF p q).2 && comB M n q (monicF (divF p q).2))
def comOk (M:Nat) (p q:List Rat):Bool:=smB M p && smB M q && comB M (q.length+1) (monicF p) (monicF q)
theorem comU_len (n:Nat) (p q:List Rat) (N:Nat) (hp:p.length≤N) (hq:q.length≤N):(comU n p q).length≤N:=by
 induction n generalizing p q with
 | zero=>exact hp
 | succ n ih=>
  unfold comU
  split
  ·exact hp
  ·exact ih _ _ hq (Nat.le_trans (monic_len _) (Nat.le_trans (div_len p q).2 hp))
theorem common_len (p q:List Rat) (N:Nat) (hp:p.length≤N) (hq:q.length≤N):(commonF p q).length≤N:=comU_len _ _ _ N (Nat.le_trans (monic_len p) hp) (Nat.le_trans (monic_len q) hq)
theorem common_p (M:Nat) (hM0:0<M) (hM:M≤137438953472) (vp vq:Value) (p q:List Rat) (hlp:p.length≤100000) (hlq:q.length≤100000) (w:World) (hp:Pl w vp p) (hq:Pl w vq q) (hok:comOk M p q=true):Calls Tryz.prog 27 #[vp,vq] w fun e w'=>∃v,e=.returned v∧Pl w' v (commonF p q)∧Ext w w':=by
 unfold comOk at hok;rw [Bool.and_eq_true,Bool.and_eq_true] at hok;obtain⟨⟨hsp,hsq⟩,hcb⟩:=hok;obtain⟨D,hD⟩:∃D,commonF p q=D:=⟨_,rfl⟩;have HD:=ZZ hD;have HP:=ZZ hp;have HQ:=ZZ hq;have HLP:=ZZ hlp;have HLQ:=ZZ hlq;have HSP:=ZZ (sm_of hsp);have HSQ:=ZZ (sm_of hsq);have HCB:=ZZ hcb;have HM0:=ZZ hM0;have HM:=ZZ hM;clear hp hq hlp hlq hsp hsq hcb hM0 hM;rw [hD];clear hD
 go_enter Tryz.func27,Tryz.ntmps27
 go_wp2_with fail;refine(monic_p M (by have:=HM.out;omega) _ p (by have:=HLP.out;omega) _ HP.out HSP.out).mono ?_
 rintro e w1 ⟨v1,rfl,h1,k1⟩;have H1:=ZZ h1.pl;have K1:=ZZ k1;clear h1 k1;go_wp2_with fail;refine(monic_p M (by have:=HM.out;omega) _ q (by have:=HLQ.out;omega) _ (HQ.out.mono K1.out) HSQ.out).mono ?_;rintro e w2 ⟨v2,rfl,h2,k2⟩;have H2:=ZZ h2.pl;have H1':=ZZ (H1.out.mono k2);have K2:=ZZ (al K1.out k2);clear h2 k2;go_wp2_with fail
 go_loopg [0,1] (q.length+1) (fun k a b wr=>∃(P Q:List Rat),Hid (trimF Q=Q)∧Hid (P.length≤100000)∧Hid (Q.length≤100000)∧Hid (comB M k P Q=true)∧Hid (comU k P Q=D)∧Hid (Pl wr a P)∧Hid (Pl wr b Q)∧Hid (Ext w wr))
 case atStart=>exact⟨monicF p,monicF q,ZZ (trim_monic q),ZZ (Nat.le_trans (monic_len p) HLP.out),ZZ (Nat.le_trans (monic_len q) HLQ.out),HCB,HD,H1',H2,K2⟩
 case round=>
  obtain⟨P,Q,HTQ,HPL,HQL,HB,HU,HPP,HPQ,HE⟩:=hrel;rename World=>WR;obtain⟨Aq,cq,eq,-,-⟩:=HPQ.out;subst eq;obtain⟨lq,hlq⟩:∃l,Q.length=l:=⟨_,rfl⟩;rw [hlq] at HPQ ⊢;have HLQ1:=ZZ hlq;clear hlq
  rcases Nat.eq_zero_or_pos lq with hz|hz
  ·subst hz
   have HQ0:=ZZ (List.length_eq_zero_iff.1 HLQ1.out)
   have HDP:=ZZ (show P=D from by
    rw [←HU.out]
    cases gk with
    | zero=>rfl
    | succ k=>exact(if_pos HQ0.out).symm)
   go_wp2_with fail;go_ret
   exact⟨_,rfl,by rw [←HDP.out];exact HPP.out,HE.out⟩
  ·have hne:Q≠[]:=fun e=>by have:=HLQ1.out;rw [e] at this;simp at this;omega
   have hie:Q.isEmpty=false:=by cases Q with|nil=>exact absurd rfl hne|cons a l=>rfl
   obtain⟨ko,rfl⟩:∃k,gk=k+1:=⟨gk - 1,by
    rcases Nat.eq_zero_or_pos gk with h|h
    ·subst h
     have h1:Q.isEmpty=true:=HB.out;rw [hie] at h1;cases h1
    ·omega⟩
   have hb2:(Q.isEmpty || (divOk M P Q && smB M (divF P Q).2 && comB M ko Q (monicF (divF P Q).2)))=true:=HB.out;rw [hie,Bool.false_or,Bool.and_eq_true,Bool.and_eq_true] at hb2;have HB2:=ZZ hb2
   have HU2:=ZZ (show comU ko Q (monicF (divF P Q).2)=D from by
    have h:(if Q=[] then P else comU ko Q (monicF (divF P Q).2))=D:=HU.out;rw [if_neg hne] at h;exact h)
   have HNE:=ZZ hne;have q1:decide ((0:Int)<(lq:Int))=true:=decide_eq_true (by omega);have q1':decide (0<lq)=true:=decide_eq_true hz;clear hne hie hb2 hz;go_wp2_with fail;refine(divided_p M HM0.out (by have:=HM.out;omega) _ _ P Q HPL.out HQL.out _ HPP.out HPQ.out (by rw [HTQ.out];exact HNE.out) HB2.out.1.1).mono ?_;rintro e w3 ⟨v3,v4,rfl,h3,h4,k3⟩;have H4:=ZZ h4.pl;have K3:=ZZ k3;clear h3 h4 k3;go_wp2_with fail;refine(monic_p M (by have:=HM.out;omega) _ (divF P Q).2 (by have h1:=(div_len P Q).2;have h2:=HPL.out;omega) _ H4.out (sm_of HB2.out.1.2)).mono ?_;rintro e w5 ⟨v5,rfl,h5,k5⟩;have H5:=ZZ h5.pl;have K5:=ZZ (al K3.out k5);clear h5 k5;go_wp2_with fail
   go_roundg ko
   case measure=>omega
   case rel=>exact⟨Q,monicF (divF P Q).2,ZZ (trim_monic _),HQL,ZZ (Nat.le_trans (monic_len _) (Nat.le_trans (div_len P Q).2 HPL.out)),ZZ HB2.out.2,HU2,ZZ (HPQ.out.mono K5.out),H5,ZZ (al HE.out K5.out)⟩
theorem exact_p (M:Nat) (hM0:0<M) (hM:M≤137438953472) (vp vq:Value) (p q:List Rat) (hlp:p.length≤100000) (hlq:q.length≤100000) (w:World) (hp:Pl w vp p) (hq:Pl w vq q) (hq0:trimF q≠[]) (hok:divOk M p q=true):Calls Tryz.prog 29 #[vp,vq] w fun e w'=>∃v,e=.returned v∧Pl w' v (divF p q).1∧Ext w w':=by
 have HP:=ZZ hp;have HQ:=ZZ hq;have HLP:=ZZ hlp;have HLQ:=ZZ hlq;have HQ0:=ZZ hq0;have HOK:=ZZ hok;have HM0:=ZZ hM0;have HM:=ZZ hM;clear hp hq hlp hlq hq0 hok hM0 hM
 go_enter Tryz.func29,Tryz.ntmps29
 go_wp2_with fail;refine(divided_p M HM0.out (by have:=HM.out;omega) _ _ p q HLP.out HLQ.out _ HP.out HQ.out HQ0.out HOK.out).mono ?_
 rintro e w3 ⟨v3,v4,rfl,h3,h4,k3⟩;have H3:=ZZ h3.pl;have K3:=ZZ k3;clear h3 h4 k3;go_wp2_with fail;go_ret;exact⟨_,rfl,H3.out,K3.out⟩
def simpleF (p:List Rat):List Rat:=(divF p (commonF p (derivF p))).1
def simpleOk (M:Nat) (p:List Rat):Bool:=smB M p && comOk M p (derivF p) && !(trimF (commonF p (derivF p))).isEmpty && divOk M p (commonF p (derivF p))
theorem deriv_len (p:List Rat):(derivF p).length≤p.length:=by
 have:=trim_le (derU p p.length)
 rw [derU_len] at this;exact Nat.le_trans this (Nat.sub_le _ _)
theorem ne_of_emp {l:List Rat} (h:(!l.isEmpty)=true):l≠[]:=fun e=>by rw [e] at h;cases h
theorem simple_p (M:Nat) (hM0:0<M) (hM:M≤137438953472) (vp:Value) (p:List Rat) (hlp:p.length≤100000) (w:World) (hp:Pl w vp p) (hok:simpleOk M p=true):Calls Tryz.prog 81 #[vp] w fun e w'=>∃v,e=.returned v∧Pl w' v (simpleF p)∧Ext w w':=by
 unfold simpleOk at hok;rw [Bool.and_eq_true,Bool.and_eq_true,Bool.and_eq_true] at hok;obtain⟨⟨⟨h1,h2⟩,h3⟩,h4⟩:=hok;have HP:=ZZ hp;have HLP:=ZZ hlp;have HS:=ZZ (sm_of h1);have HC:=ZZ h2;have HNE:=ZZ (ne_of_emp h3);have HDV:=ZZ h4;have HM0:=ZZ hM0;have HM:=ZZ hM;clear hp hlp h1 h2 h3 h4 hM0 hM
 go_enter Tryz.func81,Tryz.ntmps81
 go_wp2_with fail;refine(deriv_p M HM0.out (by have:=HM.out;omega) _ p (by have:=HLP.out;omega) _ HP.out HS.out).mono ?_
 rintro e w3 ⟨v3,rfl,h3,k3⟩;have H3:=ZZ h3.pl;have K3:=ZZ k3;clear h3 k3;go_wp2_with fail;refine(common_p M HM0.out HM.out _ _ p (derivF p) HLP.out (Nat.le_trans (deriv_len p) HLP.out) _ (HP.out.mono K3.out) H3.out HC.out).mono ?_;rintro e w4 ⟨v4,rfl,h4,k4⟩;have H4:=ZZ h4;have K4:=ZZ (al K3.out k4);clear h4 k4;go_wp2_with fail;refine(exact_p M HM0.out HM.out _ _ p (commonF p (derivF p)) HLP.out (common_len _ _ _ HLP.out (Nat.le_trans (deriv_len p) HLP.out)) _ (HP.out.mono K4.out) H4.out HNE.out HDV.out).mono ?_;rintro e w5 ⟨v5,rfl,h5,k5⟩;have H5:=ZZ h5;have K5:=ZZ (al K4.out k5);clear h5 k5;go_wp2_with fail;go_ret;exact⟨_,rfl,H5.out,K5.out⟩
def PlL (w:World) (v:Value) (ls:List (List Rat)):Prop:=∃A cap,v=.slice A ls.length cap∧ls.length≤cap∧((A=none∧ls=[])∨∃b o,A=some ⟨b,o,none⟩∧∀i l,ls[i]?=some l→∃u,w.cell? ⟨b,o+i,none⟩=some u∧Pl w u l)
theorem PlL.mono {w w':World} {v:Value} {ls:List (List Rat)} (h:PlL w v ls) (k:Ext w w'):PlL w' v ls:=by
 obtain⟨A,cap,e,hc,hA⟩:=h;refine⟨A,cap,e,hc,?_⟩
 rcases hA with h|⟨b,o,e1,h⟩
 ·exact .inl h
 ·exact .inr ⟨b,o,e1,fun i l hl=>by obtain⟨u,h1,h2⟩:=h i l hl;exact⟨u,ao k h1,h2.mono k⟩⟩
theorem pll_one {w:World} {u:Value} {l:List Rat} (h:Pl w u l):PlL (w.alloc (.cells #[u] 27)) (.slice (some ⟨w.heap.size,0,none⟩) 1 1) [l]:=by
 have hr:=heap_alloc_new w (.cells #[u] 27);refine⟨_,1,rfl,Nat.le_refl _,.inr ⟨_,0,rfl,fun i q hq=>?_⟩⟩
 match i,hq with
 | 0,hq=>obtain rfl:l=q:=Option.some.inj hq;exact⟨u,by rw [cell_of_row _ _ _ _ _ _ hr];rfl,h.mono (ab _ _)⟩
def bigF (l:List Rat):Bool:=decide (41<(trimF l).length)
theorem long1_p (v:Value) (l:List Rat) (hl:l.length≤1000000) (w:World) (h:Pl w v l) (b:Bool) (hb:bigF l=b):Calls Tryz.prog 111 #[v] w fun e w'=>e=.returned (.bool b)∧Ext w w':=by
 have HP:=ZZ h;have HL:=ZZ hl;obtain⟨n,hn⟩:∃n:Int,((trimF l).length:Int) - 1=n:=⟨_,rfl⟩;have HN:=ZZ hn
 have q1:decide ((40:Int)<n)=b:=by
  rw [←hb,←hn];unfold bigF
  by_cases h:41<(trimF l).length
  ·rw [decide_eq_true h,decide_eq_true (by omega)]
  ·rw [decide_eq_false h,decide_eq_false (by omega)]
 clear h hl hb hn
 go_enter Tryz.func111,Tryz.ntmps111
 go_wp2_with fail;refine(deg_q _ l HL.out _ HP.out).mono ?_
 rintro e w3 ⟨rfl,k3⟩;rw [HN.out];have K3:=ZZ k3;clear k3;go_wp2_with fail;go_ret;exact⟨rfl,K3.out⟩
theorem index_p (v:Value) (ls:List (List Rat)) (hn:ls.length≤1000000) (hl:∀l ∈ ls,l.length≤1000000) (w:World) (h:PlL w v ls):Calls Tryz.prog 136 #[v,.func (.func 111) #[] #[]] w fun e w'=>∃z:Int,e=.returned (.int .i64 z)∧decide (0≤z)=ls.any bigF∧Ext w w':=by
 obtain⟨A,cap,rfl,-,hA⟩:=h;obtain⟨n,hm⟩:∃n,ls.length=n:=⟨_,rfl⟩;rw [hm];have HM:=ZZ hm;have HN:=ZZ hn;have HL:=ZZ hl;have HA:=ZZ hA;clear hm hn hl hA
 go_enter Tryz.func136,Tryz.ntmps136
 go_wp2_with fail
 go_loopg [8] n (fun k i wr=>∃j,Hid (j+k=n)∧i=.int .i64 (j:Int)∧Hid ((ls.take j).any bigF=false)∧Hid (Ext w wr))
 case atStart=>exact⟨0,ZZ (Nat.zero_add _),rfl,ZZ rfl,ZZ (ae _)⟩
 case round=>
  obtain⟨j,HJ,rfl,HF,HE⟩:=hrel;rename World=>WR
  rcases Nat.eq_zero_or_pos gk with hz|hz
  ·subst hz
   obtain rfl:j=n:=HJ.out;have q1:decide ((j:Int)<(j:Int))=false:=decide_eq_false (Int.lt_irrefl _);go_wp2_with fail;go_ret;refine⟨-1,rfl,?_,HE.out⟩;have h:=HF.out;rw [List.take_of_length_le (Nat.le_of_eq HM.out)] at h;rw [h];rfl
  ·have hjn:j<n:=by have:=HJ.out;omega
   have hjl:j<ls.length:=by rw [HM.out];exact hjn
   have q1:decide ((j:Int)<(n:Int))=true:=decide_eq_true (by omega);have q1':decide (j<n)=true:=decide_eq_true hjn;have q4:(j:Int)<(n:Int):=by omega
   have q5:(0:Int)≤(j:Int):=by omega
   rcases HA.out with ⟨-,h5⟩|⟨b,o,rfl,ht⟩
   ·rw [h5] at hjl;simp at hjl
   obtain⟨l,hl⟩:∃l,ls[j]?=some l:=⟨ls[j]'hjl,List.getElem?_eq_getElem _⟩;obtain⟨u,c0,hu⟩:=ht j l hl;obtain⟨Au,ku,cu,eu⟩:∃A k c,u=.slice A k c:=by obtain⟨A,c,e,-⟩:=hu;exact⟨_,_,_,e⟩
   subst eu
   replace c0:=ao HE.out c0
   obtain⟨bb,hbb⟩:∃b,bigF l=b:=⟨_,rfl⟩;have HU:=ZZ (hu.mono HE.out);have HBB:=ZZ hbb;have HLL:=ZZ hl;have HZ:=ZZ hz;have HJN:=ZZ hjn;have LL:=ZZ (HL.out l (List.mem_of_getElem? hl));clear hu hbb hl hz hjl ht;go_wp2_with fail;refine(long1_p _ l LL.out _ HU.out bb HBB.out).mono ?_;rintro e w5 ⟨rfl,k5⟩;have K5:=ZZ (al HE.out k5);clear k5 c0
   cases bb with
   | true=>
    go_wp2_with fail;go_ret
    refine⟨(j:Int),rfl,?_,K5.out⟩;rw [decide_eq_true (by omega:(0:Int)≤(j:Int))];exact(List.any_eq_true.2 ⟨l,List.mem_of_getElem? HLL.out,HBB.out⟩).symm
   | false=>
    go_wp2_with fail
    go_roundg (gk - 1)
    case measure=>have:=HZ.out;omega
    case rel=>exact⟨j+1,ZZ (by have:=HJ.out;have:=HZ.out;omega),by have h1:=HN.out;have h2:=HM.out;have h3:=HJN.out;rw [IntWalk.wrap64_in _ ⟨by omega,by omega⟩];rfl,ZZ (by rw [List.take_add_one,HLL.out,List.any_append,HF.out];simp [HBB.out]),K5⟩
theorem contains_p (v:Value) (ls:List (List Rat)) (hn:ls.length≤1000000) (hl:∀l ∈ ls,l.length≤1000000) (w:World) (h:PlL w v ls) (b:Bool) (hb:ls.any bigF=b):Calls Tryz.prog 110 #[v,.func (.func 111) #[] #[]] w fun e w'=>e=.returned (.bool b)∧Ext w w':=by
 have HP:=ZZ h;have HN:=ZZ hn;have HL:=ZZ hl;have HB:=ZZ hb;obtain⟨A,k,c,e⟩:∃A k c,v=.slice A k c:=by obtain⟨A,c,e,-⟩:=h;exact⟨_,_,_,e⟩
 subst e;clear h hn hl hb
 go_enter Tryz.func110,Tryz.ntmps110
 go_wp2_with fail;refine(index_p _ ls HN.out HL.out _ HP.out).mono ?_
 rintro e w3 ⟨z,rfl,hz,k3⟩;rw [HB.out] at hz;have K3:=ZZ k3;clear k3;go_wp2_with fail;go_ret;exact⟨rfl,K3.out⟩
theorem long_p (v:Value) (ls:List (List Rat)) (hn:ls.length≤1000000) (hl:∀l ∈ ls,l.length≤1000000) (w:World) (h:PlL w v ls) (b:Bool) (hb:ls.any bigF=b):Calls Tryz.prog 68 #[v] w fun e w'=>e=.returned (.bool b)∧Ext w w':=by
 have HP:=ZZ h;have HN:=ZZ hn;have HL:=ZZ hl;have HB:=ZZ hb;obtain⟨A,k,c,e⟩:∃A k c,v=.slice A k c:=by obtain⟨A,c,e,-⟩:=h;exact⟨_,_,_,e⟩
 subst e;clear h hn hl hb
 go_enter Tryz.func68,Tryz.ntmps68
 go_wp2_with fail;refine(contains_p _ ls HN.out HL.out _ HP.out b HB.out).mono ?_
 rintro e w3 ⟨rfl,k3⟩;have K3:=ZZ k3;clear k3;go_wp2_with fail;go_ret;exact⟨rfl,K3.out⟩
def askF (p:List Rat):Int:=if bigF p then 3 else if trimF p=[] then 8 else 0
theorem asked_p (v:Value) (p:List Rat) (hl:p.length≤1000000) (w:World) (h:Pl w v p) (z:Int) (hz:askF p=z):Calls Tryz.prog 24 #[v] w fun e w'=>e=.returned (.int .i64 z)∧Ext w w':=by
 have HP:=ZZ h;have HL:=ZZ hl;obtain⟨A,k,c,e⟩:∃A k c,v=.slice A k c:=by obtain⟨A,c,e,-⟩:=h;exact⟨_,_,_,e⟩
 subst e;obtain⟨b,hb⟩:∃b,bigF p=b:=⟨_,rfl⟩;have HB:=ZZ (show [p].any bigF=b by rw [←hb];simp);have HL1:=ZZ (pll_one h);have HZ:=ZZ hz;have HB0:=ZZ hb;clear h hl hz hb
 go_enter Tryz.func24,Tryz.ntmps24
 go_wp2_with fail;refine(long_p _ [p] (by simp) (fun l hl'=>by rw [List.mem_singleton.1 hl'];exact HL.out) _ HL1.out b HB.out).mono ?_
 rintro e w3 ⟨rfl,k3⟩;have K3:=ZZ (al (ab _ _) k3);clear k3
 cases b with
 | true=>
  obtain rfl:3=z:=by rw [←HZ.out];unfold askF;rw [HB0.out];rfl
  go_wp2_with fail;go_ret
  exact⟨rfl,K3.out⟩
 | false=>
  go_wp2_with fail;refine(deg_q _ p HL.out _ (HP.out.mono K3.out)).mono ?_
  rintro e w4 ⟨rfl,k4⟩;have K4:=ZZ (al K3.out k4);clear k4;obtain⟨n,hn⟩:∃n,(trimF p).length=n:=⟨_,rfl⟩;rw [hn]
  rcases Nat.eq_zero_or_pos n with h0|h0
  ·obtain rfl:8=z:=by
    rw [←HZ.out];unfold askF;rw [HB0.out,if_neg (by decide),if_pos (List.length_eq_zero_iff.1 (hn.trans h0))]
   subst h0;clear hn;have q1:decide (((0:Nat):Int) - 1<0)=true:=rfl;have q2:((0:Nat):Int) - 1 = -1:=rfl;rw [q2];go_wp2_with fail;go_ret;exact⟨rfl,K4.out⟩
  ·obtain rfl:0=z:=by
    rw [←HZ.out];unfold askF;rw [HB0.out,if_neg (by decide),if_neg (fun e=>by rw [e] at hn;simp at hn;omega)]
   clear hn;have q1:decide ((n:Int) - 1<0)=false:=decide_eq_false (by omega);have q1':decide ((n:Int)<1)=false:=decide_eq_false (by omega);go_wp2_with fail;go_ret;exact⟨rfl,K4.out⟩
end Go.Proofs.YtkoaakefgacokaaGreatDoor
