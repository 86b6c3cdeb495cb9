/- Sturm's chain as a list. Printed by gen_ye.py. The reference's natural numbers: a shift to the left. -/
import Derived.Test.YtaaoleakkaloeaaGreatDoorGYd
import Derived.Test.YtaaoleakkaloeaaGreatDoorGTb
import Derived.Test.YtaaoleakkaloeaaGreatDoorGTd
set_option linter.unusedVariables false
set_option maxRecDepth 100000
set_option maxHeartbeats 64000000
namespace Go.Proofs.YtaaoleakkaloeaaGreatDoor
open Go Go.RowKit Go.Shelf
set_option linter.unusedSimpArgs false
attribute [local go_sem] Oper.semAt_some
theorem wpListIn_appendG {F:Fence} {n₁:Nat} {P:Program} {S T:TypeId} {sz bytes:Nat} {z:Value} (E:ElT P S T sz bytes z) {C:Value→Prop} (hC0:∀c ∈ z.cells.toList,C c) {ops:Array Oper} {rest:List Oper} {o:Oper} {a:Act} {w:World} {Q:Exit→Act→World→Prop} (hgd:o.guard=none) (s x:Operand) (ho:o.op=.call { callee:=.builtin .append,args:=#[s,x],argTypes:=#[S,S] }) (B:Nat) (v:Value) (n:Nat) (xs:List Value) (hs:a.eval s=v) (hown:OwnG w B T sz C v n xs) (ad:Addr) (m c:Nat) (news:List Value) (hx:a.eval x=.slice (some ad) m c) (hl:news.length=m*sz) (hnews:∀j u,news[j]?=some u→w.cell? (ad.add j)=some u) (h1:∀u ∈ news,u.oneCell'=true) (hu:∀u ∈ news,C u) (hm:0<m) (hn:(n+m)*bytes≤140737488355328) (h63:n+m≤maxLen) (hB:B≤w.heap.size) (h:∀v' w',OwnG w' B T sz C v' (n+m) (xs ++ news)→w.grownBy w' v.ownBlock→wpListIn F n₁ P ops Q rest (a.put o.dst v') w'):wpListIn F n₁ P ops Q (o :: rest) a w:=by
 refine wpListIn_plain hgd fun K hK=>?_;obtain⟨v',w',hr,h2,h3⟩:=run_appendG E hC0 w B o.type v n xs hown ad m c news hl hnews h1 hu hm hn h63 hB;unfold Oper.wpIn;refine⟨by simp [Oper.about,ho,resolve,Target.leads,Sem.run_pure],?_⟩;rw [Oper.semAt_plain F _ _ (by rw [ho];intro c hc';cases hc')]
 simp [execOp,ho,resolve,invoke,builtin,hs,hx,hr,Result.andThen]
 exact hK _ _ (h v' w' h2 h3)
theorem PlL.cb {A B:World} {v:Value} {ls:List (List Rat)} (h:PlL A v ls) (k:Cb A B):PlL B v ls:=by
 obtain⟨X,cap,e,hc,hA⟩:=h;refine⟨X,cap,e,hc,?_⟩
 rcases hA with h|⟨b,o,e1,ht⟩
 ·exact .inl h
 ·exact .inr ⟨b,o,e1,fun i l hl=>by obtain⟨u,h1,h2⟩:=ht i l hl;exact⟨u,k _ _ _ h1,h2.cb k⟩⟩
theorem OwnG.other {W W':World} {B:Nat} {T:TypeId} {s:Nat} {C:Value→Prop} {v:Value} {n:Nat} {xs:List Value} (h:OwnG W B T s C v n xs) (hk:∀g,v.ownBlock=some g→W'.heap[g]?=W.heap[g]?):OwnG W' B T s C v n xs:=by
 obtain⟨h1,h2⟩:=h;refine⟨h1,?_⟩
 rcases h2 with h2|⟨g,cap,cur,e,hb,hh,hr⟩
 ·exact .inl h2
 ·exact .inr ⟨g,cap,cur,e,hb,(hk g (by rw [e];rfl)).trans hh,hr⟩
def OutC (go:Nat) (pre:List (Value × List Rat)) (W:World):Prop:=∃v,W.heap[go]?=some (.cells #[v] 77 (0,0))∧OwnV W (go+1) v pre.length (pre.map fun y=>y.1)
theorem OwnG.slice {W:World} {B:Nat} {T:TypeId} {s:Nat} {C:Value→Prop} {v:Value} {n:Nat} {xs:List Value} (h:OwnG W B T s C v n xs):∃A c,v=.slice A n c:=by
 rcases h.2 with ⟨e,h0⟩|⟨g,cap,cur,e,-⟩
 ·exact⟨none,0,by rw [h0];exact e⟩
 ·exact⟨_,_,e⟩
theorem chain_p (M:Nat) (hM0:0<M) (hM:M≤4294967296) (vp vq:Value) (p q:List Rat) (hlp:p.length≤100000) (hlq:q.length≤100000) (w:World) (hp:Pl w vp p) (hq:Pl w vq q) (hok:chainOk M p q=true):Calls Tryz.prog 37 #[vp,vq] w fun e w'=>∃v,e=.returned v∧PlL w' v (chainF p q)∧Ext w w':=by
 obtain⟨A,n,c,rfl,-⟩:=hp.form;obtain⟨A',n',c',rfl,-⟩:=hq.form
 have hcl:(chainF p q).length≤p.length+q.length+2:=by
  have:∀(k:Nat) (a b:List Rat),(chainU k a b).length≤k:=by
   intro k
   induction k with
   | zero=>intro a b;exact Nat.le_refl _
   | succ k ih=>
    intro a b;unfold chainU
    split
    ·exact Nat.zero_le _
    ·split
     ·simp
     ·rw [List.length_cons];exact Nat.succ_le_succ (ih _ _)
  exact this _ _ _
 have HCL:=ZZ (show (chainF p q).length≤300000 by omega);have HP:=ZZ hp;have HQ:=ZZ hq;have HLP:=ZZ hlp;have HLQ:=ZZ hlq;have HOK:=ZZ hok;have HM:=ZZ hM;have HM0:=ZZ hM0;clear hp hq hlp hlq hok hM hM0 hcl;refine(callsIn_wide (n:=4)).1 ?_;refine callsIn_of_wp_marks Tryz.func37 rfl trivial ?_ rfl
 simp only [Tryz.ntmps37,List.size_toArray,List.length_cons,List.length_nil,Nat.reduceAdd,Nat.reduceSub,Array.replicate_succ,Array.replicate_zero,List.push_toArray,List.append_toArray,List.nil_append,List.cons_append]
 have st:=sturm_c (.slice A n c) (.slice A' n' c') ⟨_,_,_,rfl⟩ ⟨_,_,_,rfl⟩
 gi_wp2_with (refine⟨trivial,?_⟩;gi_at_call 81;refine(callsIn_wide.2 (st _)).mono ?_;rintro e w' ⟨rfl,rfl⟩)
 clear st;obtain⟨go,hgo⟩:∃g,w.heap.size=g:=⟨_,rfl⟩;have sz:∀(W:World) (o:Obj),(W.alloc o).heap.size=W.heap.size+1:=fun W o=>World.size_alloc W o;obtain⟨W1,hW1⟩:∃W,W=w.alloc (.cells #[.slice none 0 0] 77):=⟨_,rfl⟩;have r1:W1.heap[go]?=some (.cells #[.slice none 0 0] 77 (0,0)):=by rw [hW1,←hgo];exact heap_alloc_new _ _
 have x1:Ext w W1:=by rw [hW1];exact ab _ _
 have s1:w.heap.size+1=W1.heap.size:=by rw [hW1];exact(sz _ _).symm
 rw [←hW1,hgo]
 simp only [←hgo,s1]
 have hgs:go<W1.heap.size:=lt_of_block r1;rw [hgo];clear hW1;obtain⟨gp,hgp⟩:∃g,W1.heap.size=g:=⟨_,rfl⟩;obtain⟨gq,hgq⟩:∃g,W1.heap.size+1=g:=⟨_,rfl⟩;obtain⟨gf,hgf⟩:∃g,W1.heap.size+1+1=g:=⟨_,rfl⟩;obtain⟨W4,hW4⟩:∃W,W=((W1.alloc (.cells #[.slice A n c] 25)).alloc (.cells #[.slice A' n' c'] 25)).alloc (.cells #[.func (.func 117) #[] #[]] 29):=⟨_,rfl⟩;have x4:Ext W1 W4:=by rw [hW4];exact ak (ab _ _) (ak (ab _ _) (ab _ _))
 have rp:W4.heap[gp]?=some (.cells #[.slice A n c] 25 (0,0)):=by
  have h:=(ak (ab (W1.alloc (.cells #[.slice A n c] 25)) (.cells #[.slice A' n' c'] 25)) (ab _ (.cells #[.func (.func 117) #[] #[]] 29))).block W1.heap.size (by rw [sz];omega:W1.heap.size<(W1.alloc (.cells #[.slice A n c] 25)).heap.size);rw [hW4,←hgp];exact h.trans (heap_alloc_new _ _)
 have rq:W4.heap[gq]?=some (.cells #[.slice A' n' c'] 25 (0,0)):=by
  have h:=(ab ((W1.alloc (.cells #[.slice A n c] 25)).alloc (.cells #[.slice A' n' c'] 25)) (.cells #[.func (.func 117) #[] #[]] 29)).block (W1.heap.size+1) (by rw [sz,sz];omega);rw [hW4,←hgq,h,←sz W1 (.cells #[.slice A n c] 25)];exact heap_alloc_new _ _
 have rf:W4.heap[gf]?=some (.cells #[.func (.func 117) #[] #[]] 29 (0,0)):=by
  rw [hW4,←hgf,←sz W1 (.cells #[.slice A n c] 25),←sz (W1.alloc (.cells #[.slice A n c] 25)) (.cells #[.slice A' n' c'] 25)];exact heap_alloc_new _ _
 rw [←hW4,hgf,hgq,hgp];clear hgp hgq hgf hW4 sz s1;have ro:=(x4.block _ hgs).trans r1;have x14:=ak x1 x4;have HP4:=ZZ (HP.out.mono x14);have HQ4:=ZZ (HQ.out.mono x14);have d1:w.heap.size≤go:=Nat.le_of_eq hgo;have d5:w.heap.size≤W4.heap.size:=x14.size;have d6:go<W4.heap.size:=lt_of_block ro;clear r1 x1 hgs x4;refine wpIn_rangeR (α:=Value × List Rat) (gf:=118) (lb:=#[.pointer (some ⟨gf,0,none⟩),.pointer (some ⟨gp,0,none⟩),.pointer (some ⟨gq,0,none⟩)]) rfl (enters_of Tryz.func118 (by kernel_rfl) rfl) (encs:=encC) (R:=fun x W=>Pl W x.1 x.2) (Z:=ZS) (S:=fun xs W=>xs.map (fun x=>x.2)=chainF p q∧∀x ∈ xs,Pl W x.1 x.2) (N:=(chainF p q).length) (w0:=W4) (fun l J W hW hJ hY h0=>sturm_in M HM0.out HM.out _ (by decide) l gf gp gq _ _ p q HLP.out HLQ.out HOK.out J hJ hY W (HP4.out.mono hW) (HQ4.out.mono hW) (am hW (by rw [cell_of_row _ _ _ _ _ _ rf];rfl)) (am hW (by rw [cell_of_row _ _ _ _ _ _ rp];rfl)) (am hW (by rw [cell_of_row _ _ _ _ _ _ rq];rfl)) h0) (ae _) (fun _=>rfl) (fun pre W=>Hid (Ext w W∧OutC go pre W))
  (fun pre A B row hs hg hr=>by
   obtain⟨h1,v,h2,h3⟩:=hs.out
   exact ZZ ⟨ownz_ext h1 d5 hg hr,v,ownz_block hg hr h2,h3.other (fun g hgv=>by
    rcases h3.2 with ⟨e,-⟩|⟨g',cap,cur,e,-,hh,-⟩
    ·rw [e] at hgv;cases hgv
    ·rw [e] at hgv
     obtain rfl:g'=g:=Option.some.inj hgv;exact(ownz_block hg hr hh).trans hh.symm)⟩)
  (ZZ ⟨x14,_,ro,OwnG.nil _ _ _ _ _⟩)
  (fun y a' W=>isSl y.1∧a'={ tmps:=#[.slice A n c,.slice A' n' c',undef,undef,.slice none 0 0,.pointer (some ⟨go,0,none⟩),y.1,.slice A n c,.slice A' n' c',.func (.func 118) #[] #[.pointer (some ⟨gf,0,none⟩),.pointer (some ⟨gp,0,none⟩),.pointer (some ⟨gq,0,none⟩)],y.1,undef,undef,undef,undef,undef],defers:=[] })
  (fun y a' u A B row hs hg hr=>hs)
  (fun xs A B row hs hg hr=>⟨hs.1,fun x hx=>(hs.2 x hx).cb (ownz_cb hg hr)⟩) ?assign ?body ?done
 case assign=>
  rintro l pre ⟨v',q'⟩ W K hi hr hK;obtain⟨A5,n5,c5,e5,-⟩:=Pl.form hr;obtain rfl:v'=.slice A5 n5 c5:=e5;have hK2:=hK { tmps:=#[.slice A n c,.slice A' n' c',undef,undef,.slice none 0 0,.pointer (some ⟨go,0,none⟩),.slice A5 n5 c5,.slice A n c,.slice A' n' c',.func (.func 118) #[] #[.pointer (some ⟨gf,0,none⟩),.pointer (some ⟨gp,0,none⟩),.pointer (some ⟨gq,0,none⟩)],.slice A5 n5 c5,undef,undef,undef,undef,undef],defers:=[] } W (ae _) ⟨⟨_,_,_,rfl⟩,rfl⟩;clear hK hr hi
  simp only [encC]
  gi_wp2
  exact hK2
 case body=>
  rintro l pre ⟨v',q'⟩ a' W hI ⟨⟨A5,n5,c5,e5⟩,rfl⟩ hlen;obtain rfl:v'=.slice A5 n5 c5:=e5;obtain⟨hE,v,hO,hV⟩:=hI.out;obtain⟨Av,cv,ev⟩:=hV.slice;subst ev;have HEW:=ZZ hE;have HOR:=ZZ hO;have x1:=ab W (.cells #[.slice A5 n5 c5] 25);have HV1:=ZZ (hV.mono x1);have HX1:=ZZ x1;have C1:=ZZ (cell1_new W (.slice A5 n5 c5) 25);have HLN:=ZZ (show pre.length<300000 from Nat.lt_of_lt_of_le hlen HCL.out);have r0:W.cell? ⟨go,0,none⟩=some (.slice Av pre.length cv):=by rw [cell_of_row _ _ _ _ _ _ hO];rfl
  have HSZ:=ZZ (show go+1≤(W.alloc (.cells #[.slice A5 n5 c5] 25)).heap.size from by have h1:=lt_of_block hO;have h2:=x1.size;omega);obtain⟨np,hnp⟩:∃np,pre.length=np:=⟨_,rfl⟩;rw [hnp] at HV1 r0 HOR HLN;have HNP:=ZZ hnp;clear hE hO hV hI hlen x1 hnp
  gi_wp2_with (gi_at_builtin;refine wpListIn_appendG elPl zero_sl rfl _ _ rfl (go+1) (.slice Av np cv) np (pre.map fun (y:Value × List Rat)=>y.1) rfl HV1.out ⟨W.heap.size,0,none⟩ 1 _ [.slice A5 n5 c5] rfl rfl C1.out (by intro u hu;rw [List.mem_singleton.1 hu];rfl) (by intro u hu;rw [List.mem_singleton.1 hu];exact⟨_,_,_,rfl⟩) (by decide) (by have h1:=HLN.out;omega) (by have h1:=HLN.out;unfold maxLen;omega) HSZ.out ?_;intro v8 w8 hown8 hgrow;obtain⟨A8,c8,e8⟩:=hown8.slice;subst e8;have HG8:=ZZ hgrow;have HO8:=ZZ hown8;have ro8:=ZZ (show w8.heap[go]?=some (.cells #[.slice Av np cv] 77 (0,0)) from (hgrow.block go (by have h1:=HSZ.out;omega) (fun e=>by have h1:=(HV1.out.lt go e.symm).1;omega)).trans ((HX1.out.block _ (lt_of_block HOR.out)).trans HOR.out));have r8:w8.cell? ⟨go,0,none⟩=some (.slice Av np cv):=(by rw [cell_of_row _ _ _ _ _ _ ro8.out];rfl);have f8:=frozen_row ro8.out 0;clear hgrow hown8)
  gi_wp2
  have hOB:∀g,(Value.slice Av np cv).ownBlock=some g→g≠go:=fun g hg e=>by have h1:=(HV1.out.lt g hg).1;omega
  have hOB8:∀g,(Value.slice A8 (np+1) c8).ownBlock=some g→g≠go:=fun g hg e=>by have h1:=(HO8.out.lt g hg).1;omega
  have e1:Ext w (W.alloc (.cells #[.slice A5 n5 c5] 25)):=ak HEW.out HX1.out;have e8:Ext w w8:=Below.grown e1 HG8.out e1.size (fun k hk=>by have h1:=(HV1.out.lt k hk).1;omega);refine⟨?_,?_,?_⟩
  ·refine⟨?_,fun k o _ hk ho=>?_⟩
   ·simp [World.setCell]
    exact Nat.le_trans HX1.out.size HG8.out.size
   ·have hlt:=(Array.getElem?_eq_some_iff.1 hk).1
    have hk1:=(HX1.out.block _ hlt).trans hk;have hne:k≠go:=fun e=>by subst e;rw [HOR.out] at hk;cases hk;cases ho
    rw [Below.heap_setCell _ _ _ _ hne];refine(HG8.out.block k (Array.getElem?_eq_some_iff.1 hk1).1 (fun e=>?_)).trans hk1
    rcases HV1.out.2 with ⟨e2,-⟩|⟨g',cap,cur,e2,-,hh,-⟩
    ·rw [e2] at e;cases e
    ·rw [e2] at e
     obtain rfl:g'=k:=(Option.some.inj e).symm;rw [hh] at hk1;cases hk1;cases ho
  ·refine⟨?_,fun k o hk ho hz=>?_⟩
   ·simp [World.setCell]
    exact Nat.le_trans HX1.out.size HG8.out.size
   ·have hlt:=(Array.getElem?_eq_some_iff.1 hk).1
    have hk1:=(HX1.out.block _ hlt).trans hk;obtain⟨cs,T1,f1,rfl,cc,hcc,hns⟩:=hz
    have hne:k≠go:=fun e=>by
     subst e;rw [HOR.out] at hk
     cases hk
     rw [show (#[Value.slice Av np cv]:Array Value).toList=[.slice Av np cv] from rfl,List.mem_singleton] at hcc;exact hns (by rw [hcc];exact⟨_,_,_,rfl⟩)
    rw [Below.heap_setCell _ _ _ _ hne];refine(HG8.out.block k (Array.getElem?_eq_some_iff.1 hk1).1 (fun e=>?_)).trans hk1
    rcases HV1.out.2 with ⟨e2,-⟩|⟨g',cap,cur,e2,-,hh,-,-,-,-,hall⟩
    ·rw [e2] at e;cases e
    ·rw [e2] at e
     obtain rfl:g'=k:=(Option.some.inj e).symm;rw [hh] at hk1;cases hk1;exact hns (hall _ hcc)
  ·refine ZZ ⟨e8.setCell (p:=⟨go,0,none⟩) d1 _,.slice A8 (np+1) c8,?_,?_⟩
   ·have:=row_set ro8.out (j:=0) (.slice A8 (np+1) c8)
    simpa using this
   ·rw [List.length_append,List.length_singleton,List.map_append,List.map_singleton,HNP.out]
    exact HO8.out.other (fun g hg=>Below.heap_setCell _ _ _ _ (hOB8 g hg))
 case done=>
  rintro D xs W hD hs hI hK;obtain⟨hE,v,hO,hV⟩:=hI.out;obtain⟨Av,cv,ev⟩:=hV.slice;subst ev;obtain⟨np,hnp⟩:∃np,xs.length=np:=⟨_,rfl⟩
  have hL:OwnL W (go+1) (.slice Av xs.length cv) (chainF p q):=by
   refine⟨_,by rw [←hs.1,List.length_map];exact hV,fun i l' hl=>?_⟩;rw [←hs.1,List.getElem?_map] at hl;obtain⟨x,hx,rfl⟩:=Option.map_eq_some_iff.1 hl;exact⟨x.1,by rw [List.getElem?_map,hx];rfl,hs.2 x (List.mem_of_getElem? hx)⟩
  rw [hnp] at hL hO;have HEW:=ZZ hE;have HLW:=ZZ hL.pll;have HKD:=ZZ hK;have r0:W.cell? ⟨go,0,none⟩=some (.slice Av np cv):=by rw [cell_of_row _ _ _ _ _ _ hO];rfl
  clear hI hs hE hO hV hK hL hnp ro rf rp rq
  gi_wp2
  refine⟨by simp,.inl ⟨_,_,rfl,run_takeDeferred HKD.out,?_⟩⟩;exact⟨_,results_tmp rfl _ _ _,_,rfl,HLW.out.cb (ownz_cb (grownBy_putObj' _ _ _) (fun r e=>by cases e;exact⟨hD,_,HKD.out,rfl⟩)),ownz_ext HEW.out d5 (grownBy_putObj' _ _ _) (fun r e=>by cases e;exact⟨hD,_,HKD.out,rfl⟩)⟩
end Go.Proofs.YtaaoleakkaloeaaGreatDoor
set_option linter.unusedVariables false
set_option maxRecDepth 100000
set_option maxHeartbeats 64000000
namespace Go.Proofs.YtaaoleakkaloeaaGreatDoor
open Go.RowKit
theorem mk_room (n c:Nat) (y z:Int) (hz:z=(n:Int)) (hy:y=(c:Int)) (hnc:n≤c) (hn:c≤35184372088832) (w:World):(Instr.makeSlice 67 (.int .i64 z) (.int .i64 y)).run Tryz.prog w=.ok (.slice (some ⟨w.heap.size,0,none⟩) n c) (w.alloc (.cells ((zs c).map i64n).toArray 2)):=by
 subst hz hy;obtain⟨i,hi,h1,h2,h3⟩:=info_parts info_i64;have h:=run_make (P:=Tryz.prog) w 67 2 i (.int .i64 0) Tryz.underlying67 hi h1 .i64 .i64 (n:Int) (c:Int) (by omega) (by omega) (by rw [h3];omega) (by omega);rw [h]
 have e:madeCells (Value.int .i64 0).cells (c*i.size)=((zs c).map i64n).toArray:=by
  rw [h2,Nat.mul_one]
  have:=toList_madeCells_one (.int .i64 0) c
  have h':(madeCells (Value.int .i64 0).cells c).toList=(zs c).map i64n:=by
   rw [show (Value.int .i64 0).cells=#[Value.int .i64 0] from rfl,this];simp [zs,i64n]
  rw [←h']
 simp only [Int.toNat_natCast,e]
theorem own_new (w:World) (n c:Nat) (hnc:n≤c) (hc:c≤maxLen):(w.alloc (.cells ((zs c).map i64n).toArray 2)).ownsRow w.heap.size 2 1 (.slice (some ⟨w.heap.size,0,none⟩) n c) n ((zs n).map i64n):=by
 refine⟨by simp [zs],.inr ⟨w.heap.size,c,_,rfl,Nat.le_refl _,heap_alloc_new w _,hnc,hc,by simp [zs],?_⟩⟩
 simp [zs,List.take_replicate,Nat.min_eq_left hnc]
theorem own_cl {w:World} {B n:Nat} {v:Value} {l:List Nat} (h:w.ownsRow B 2 1 v n (l.map i64n)):∃A c,v=.slice A n c∧n≤c∧l.length=n∧Cl w A (l.map i64n):=by
 obtain⟨h1,h2⟩:=h
 simp at h1
 rcases h2 with ⟨rfl,rfl⟩|⟨g,cap,cur,rfl,hb,hg,hn,hm,hs,ht⟩
 ·exact⟨none,0,rfl,Nat.le_refl _,h1,by rw [List.length_eq_zero_iff.1 h1];exact .inl rfl⟩
 ·refine⟨_,_,rfl,hn,h1,cl_block hg fun j hj=>?_⟩
  rw [Nat.mul_one] at ht;have hj':j<n:=by simp at hj;omega
  rw [←ht,List.getD_eq_getElem?_getD,List.getElem?_take,if_pos hj',Nat.zero_add,←Array.getElem?_toList]
  have:j<cur.size:=by omega
  simp [Array.getElem?_eq_getElem this]
theorem left_step {F B P R V cy x d c':Nat} (h:R+P*cy=V*F) (hs:d+B*c'=cy+x*F):(R+P*d)+P*B*c'=(V+P*x)*F:=by
 have h1:P*(d+B*c')=P*(cy+x*F):=by rw [hs]
 grind
theorem left_carry {F x cy d c':Nat} (hx:x<1073741824) (hc:cy<F) (hF:F≤536870912) (h:d+B30*c'=cy+x*F):c'<F∧cy+x*F<576460752303423488:=by
 have h1:x*F≤1073741823*F:=Nat.mul_le_mul_right _ (by omega);rw [B30_eq] at h;omega
theorem own_any {A:Option Addr} {n m c d:Nat}:(Value.slice A n c).ownBlock=(Value.slice A m d).ownBlock:=by cases A <;> rfl
theorem left_f (va:Value) (n k:Nat) (hk:k≤1099511627776) (w:World) (ha:Wr w va n) (sa:Sr n):Calls Tryz.prog 113 #[va,.int .i64 k] w fun e w'=>∃v,e=.returned v∧Wr w' v (n*2 ^ k)∧Ext w w'∧Fr w.heap.size v:=by
 obtain⟨A,ca,rfl,hca,hA⟩:=ha;unfold Sr at sa;have en:=num_dr n;have nl:=dr_lt n;generalize dr n=l at *;obtain⟨s,e,hse,he⟩:∃s e:Nat,k=30*s+e∧e<30:=⟨k / 30,k % 30,by omega,by omega⟩;have hq:(k:Int) / 30=(s:Int):=by omega
 have hr:(k:Int) % 30=(e:Int):=by omega
 have hwq:IntKind.i64.wrap (s:Int)=(s:Int):=IntWalk.i64_in _ (by omega);have hsb:s≤1099511627776:=by omega
 have HSE:=ZZ hse;have En:=ZZ en;have Nl:=ZZ nl;clear en nl hse;obtain⟨F,G,hF,hF0,hG0,hFG,hFb,hG⟩:=pow_split e he;have hF':((2:Int) ^ e)=(F:Int):=by rw [hF];push_cast;rfl
 have hsh:IntKind.i64.wrap ((2:Int) ^ e)=(F:Int):=by rw [hF'];exact IntWalk.i64_in _ (by omega)
 have hu:IntKind.u64.wrap (e:Int)=(e:Int):=IntWalk.u64_in _ (by omega);have HF:=ZZ hF;obtain⟨i0,hi,hz0,hz1,hz2⟩:=info_parts info_i64;have hmk:=mk_room s (l.length+s+1) ((l.length:Int)+(s:Int)+1) (s:Int) rfl (by omega) (by omega) (by omega);have hw1:IntKind.i64.wrap ((l.length:Int)+(s:Int))=(l.length:Int)+(s:Int):=IntWalk.i64_in _ (by omega);have hw2:IntKind.i64.wrap ((l.length:Int)+(s:Int)+1)=(l.length:Int)+(s:Int)+1:=IntWalk.i64_in _ (by omega);clear hF hF' hFG hG hG0
 go_enter Tryz.func113,Tryz.ntmps113
 go_wp2_with fail;clear hmk hw1 hw2 hq hr hwq hsh hu
 go_loopw [5,7,8] (fun p c i wr=>∃(t cy:Nat) (xs:List Nat),t≤l.length∧i=.int .i64 t∧c=.int .i64 cy∧cy<F∧xs.length=t∧(∀d ∈ xs,d<B30)∧Hid (wr.ownsRow w.heap.size 2 1 p (s+t) ((zs s ++ xs).map i64n))∧Ext w wr∧num B30 xs+B30 ^ t*cy=num B30 (l.take t)*F) (fun _ _ i _=>l.length - (intOf i).toNat)
 case atStart=>exact⟨0,0,[],Nat.zero_le _,rfl,rfl,hF0,rfl,by simp,by simpa using ZZ (own_new w s (l.length+s+1) (by omega) (by unfold maxLen;omega)),ab _ _,by simp⟩
 case round=>
  obtain⟨t,cy,xs,ht,rfl,rfl,hcy,hxl,hxb,HOWN,hext,hnum⟩:=hrel;have Hxl:=ZZ hxl;have Hxb:=ZZ hxb;have HEX:=ZZ hext;have Hnum:=ZZ hnum;clear hxl hxb hnum hext;have H63:=ZZ (show s+t+1≤maxLen by unfold maxLen;omega);have HBY:=ZZ (show (s+t+1)*8≤140737488355328 by omega);have HWS:=ZZ (show w.heap.size≤wr.heap.size+1 from Nat.le_succ_of_le HEX.out.size);have HWZ:=ZZ (show w.heap.size≤wr.heap.size from HEX.out.size)
  by_cases hlt:t<l.length
  ·obtain⟨b,o,rfl,hc⟩:=hA.i (by omega)
   have ea:=am HEX.out (hc t hlt);have hxb:=getD_lt Nl.out (by rw [B30_eq];omega) t;have HTT:=ZZ (num_take_le B30 l t);rw [B30_eq] at hxb;clear hc hA;generalize l.getD t 0=x at *;obtain⟨p,hp⟩:∃p:Nat,p=x*F:=⟨_,rfl⟩;obtain⟨sm,hsm⟩:∃sm:Nat,sm=cy+p:=⟨_,rfl⟩;obtain⟨d,c',hd,hdc,hd1,hc1'⟩:=split30 sm;have HDC:=ZZ (show d+B30*c'=cy+x*F by rw [hdc,hsm,hp]);obtain⟨hcb,hsb'⟩:=left_carry hxb hcy hFb HDC.out;have hsmb:sm<576460752303423488:=by rw [hsm,hp];exact hsb'
   have hw1:IntKind.i64.wrap ((x:Int)*(F:Int))=(p:Int):=by
    rw [show (x:Int)*(F:Int)=(p:Int) by rw [hp];push_cast;rfl];exact IntWalk.i64_in _ (by omega)
   have hw2:IntKind.i64.wrap ((cy:Int)+(p:Int))=(sm:Int):=(IntWalk.i64_in _ (by omega)).trans (by omega);have hrem:(sm:Int) % 1073741824=(d:Int):=by omega
   have hquo:(sm:Int) / 1073741824=(c':Int):=by omega
   have Hd:=ZZ hd;have HCB:=ZZ hcb;have hcb2:c'≤1073741824:=by omega
   rw [B30_eq] at hd
   have HST:=ZZ (show num B30 (xs ++ [d])+B30 ^ (t+1)*c'=num B30 (l.take (t+1))*F by
    rw [num_snoc,Hxl.out,HTT.out,Nat.pow_succ];exact left_step Hnum.out HDC.out)
   clear hp hsm hdc hd1 hc1' hsb'
   go_wp2_with (at_builtin;refine wpList_append_own_at _ rfl _ _ 67 rfl w.heap.size 2 i0 (.int .i64 0) 1 8 Tryz.underlying67 hi hz0 hz1 hz2 rfl (by decide) _ _ _ rfl (HOWN.out.alloc _) ⟨wr.heap.size,0,none⟩ 1 1 [.int .i64 (d:Int)] rfl rfl (cell_one_new _ _ _) (by intro u hu;simp at hu;subst hu;rfl) H63.out HBY.out (by have:=HWS.out;simpa using this) ?_;intro v' w3 hown3 hgrow hnil hloc)
   have HE3:=ZZ (show Ext w w3 from (ak HEX.out (ab wr _)).grown hgrow (by have:=HWS.out;simpa using this) (fun k hk=>(own_lt HOWN.out hk).1));have HO3:=ZZ hown3;clear hown3 hgrow hnil hloc;go_wp2_with fail
   go_roundw
   case rel=>exact⟨t+1,c',xs ++ [d],by omega,by first|rfl|go_num,rfl,HCB.out,by rw [List.length_append,Hxl.out];rfl,by intro z hz;rcases List.mem_append.1 hz with h|h;exact Hxb.out z h;rw [List.mem_singleton.1 h];exact Hd.out,by have:=HO3.out;rw [←List.append_assoc,List.map_append];exact ZZ this,HE3.out,HST.out⟩
   case measure=>simp [intOf];omega
  ·have htm:t=l.length:=by omega
   go_wp2_with (at_builtin;refine wpList_append_own_at _ rfl _ _ 67 rfl w.heap.size 2 i0 (.int .i64 0) 1 8 Tryz.underlying67 hi hz0 hz1 hz2 rfl (by decide) _ _ _ rfl (HOWN.out.alloc _) ⟨wr.heap.size,0,none⟩ 1 1 [.int .i64 (cy:Int)] rfl rfl (cell_one_new _ _ _) (by intro u hu;simp at hu;subst hu;rfl) H63.out HBY.out (by have:=HWS.out;simpa using this) ?_;intro v' w3 hown3 hgrow hnil hloc)
   have HE3:=ZZ (show Ext w w3 from (ak HEX.out (ab wr _)).grown hgrow (by have:=HWS.out;simpa using this) (fun k hk=>(own_lt HOWN.out hk).1));have hown4:w3.ownsRow w.heap.size 2 1 v' (s+t+1) ((zs s ++ xs ++ [cy]).map i64n):=by rw [List.map_append];exact hown3
   obtain⟨A3,c3,rfl,hn3,hl3,hcl3⟩:=own_cl hown4;have HFR:=ZZ (show Fr w.heap.size (.slice A3 (s+t+1) c3) from fun b hb=>(own_lt hown4 hb).1);have HCL:=ZZ hcl3;have HL3:=ZZ hl3;have HN3:=ZZ hn3
   have HYB:=ZZ (show ∀z ∈ zs s ++ xs ++ [cy],z<B30 from fun z hz=>by
    rcases List.mem_append.1 hz with h|h
    ·rcases List.mem_append.1 h with h|h
     ·exact zs_lt (by rw [B30_eq];omega) s z h
     ·exact Hxb.out z h
    ·rw [List.mem_singleton.1 h,B30_eq];omega)
   clear hown3 hown4 hgrow hnil hloc hn3 hl3 hcl3;go_wp2_with fail;refine(rcut_c _ (zs s ++ xs ++ [cy]) _ _ HCL.out (s+t+1) HL3.out HN3.out (by omega)).mono ?_;rintro e w2 ⟨rfl,rfl⟩;go_wp2_with fail;go_ret;refine⟨_,rfl,?_,HE3.out,fun b hb=>HFR.out b (own_any.trans hb)⟩;have h2:=rcut_w HYB.out HCL.out (c:=c3) (by rw [HL3.out];exact HN3.out);have h1:=Hnum.out;rw [num_take_all B30 l (by omega),En.out] at h1
   have h3:num B30 (zs s ++ xs ++ [cy])=n*2 ^ k:=by
    rw [List.append_assoc,num_append,show num B30 (zs s)=0 from num_replicate_zero _ _,zs_length,num_snoc,Hxl.out,h1,HSE.out,Nat.pow_add,←B30_pow,HF.out,Nat.zero_add]
    grind
   rw [h3,List.append_assoc] at h2;exact h2
theorem left_r (va:Value) (n k:Nat) (hk:k≤1099511627776) (w:World) (ha:Wr w va n) (sa:Sr n):Calls Tryz.prog 113 #[va,.int .i64 k] w fun e w'=>∃v,e=.returned v∧Wr w' v (n*2 ^ k)∧Ext w w':=(left_f va n k hk w ha sa).mono fun e w' ⟨v,h1,h2,h3,_⟩=>⟨v,h1,h2,h3⟩
end Go.Proofs.YtaaoleakkaloeaaGreatDoor
