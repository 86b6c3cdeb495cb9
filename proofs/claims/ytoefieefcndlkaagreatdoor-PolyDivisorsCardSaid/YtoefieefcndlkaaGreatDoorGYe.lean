/- Sturm's chain as a list. Printed by gen_ye.py. -/
import Derived.Test.YtoefieefcndlkaaGreatDoorGYd
set_option linter.unusedVariables false
set_option maxRecDepth 100000
set_option maxHeartbeats 64000000
namespace Go.Proofs.YtoefieefcndlkaaGreatDoor
open Go Go.RowKit Go.Shelf
set_option linter.unusedSimpArgs false
attribute [local go_sem] Oper.semAt_some
theorem wpListIn_appendG {F:Fence} {n₁:Nat} {P:Program} {S T:TypeId} {sz bytes:Nat} {z:Value} (E:ElT P S T sz bytes z) {C:Value→Prop} (hC0:∀c ∈ z.cells.toList,C c) {ops:Array Oper} {rest:List Oper} {o:Oper} {a:Act} {w:World} {Q:Exit→Act→World→Prop} (hgd:o.guard=none) (s x:Operand) (ho:o.op=.call { callee:=.builtin .append,args:=#[s,x],argTypes:=#[S,S] }) (B:Nat) (v:Value) (n:Nat) (xs:List Value) (hs:a.eval s=v) (hown:OwnG w B T sz C v n xs) (ad:Addr) (m c:Nat) (news:List Value) (hx:a.eval x=.slice (some ad) m c) (hl:news.length=m*sz) (hnews:∀j u,news[j]?=some u→w.cell? (ad.add j)=some u) (h1:∀u ∈ news,u.oneCell'=true) (hu:∀u ∈ news,C u) (hm:0<m) (hn:(n+m)*bytes≤140737488355328) (h63:n+m≤maxLen) (hB:B≤w.heap.size) (h:∀v' w',OwnG w' B T sz C v' (n+m) (xs ++ news)→w.grownBy w' v.ownBlock→wpListIn F n₁ P ops Q rest (a.put o.dst v') w'):wpListIn F n₁ P ops Q (o :: rest) a w:=by
 refine wpListIn_plain hgd fun K hK=>?_;obtain⟨v',w',hr,h2,h3⟩:=run_appendG E hC0 w B o.type v n xs hown ad m c news hl hnews h1 hu hm hn h63 hB;unfold Oper.wpIn;refine⟨by simp [Oper.about,ho,resolve,Target.leads,Sem.run_pure],?_⟩;rw [Oper.semAt_plain F _ _ (by rw [ho];intro c hc';cases hc')]
 simp [execOp,ho,resolve,invoke,builtin,hs,hx,hr,Result.andThen]
 exact hK _ _ (h v' w' h2 h3)
theorem PlL.cb {A B:World} {v:Value} {ls:List (List Rat)} (h:PlL A v ls) (k:Cb A B):PlL B v ls:=by
 obtain⟨X,cap,e,hc,hA⟩:=h;refine⟨X,cap,e,hc,?_⟩
 rcases hA with h|⟨b,o,e1,ht⟩
 ·exact .inl h
 ·exact .inr ⟨b,o,e1,fun i l hl=>by obtain⟨u,h1,h2⟩:=ht i l hl;exact⟨u,k _ _ _ h1,h2.cb k⟩⟩
theorem OwnG.other {W W':World} {B:Nat} {T:TypeId} {s:Nat} {C:Value→Prop} {v:Value} {n:Nat} {xs:List Value} (h:OwnG W B T s C v n xs) (hk:∀g,v.ownBlock=some g→W'.heap[g]?=W.heap[g]?):OwnG W' B T s C v n xs:=by
 obtain⟨h1,h2⟩:=h;refine⟨h1,?_⟩
 rcases h2 with h2|⟨g,cap,cur,e,hb,hh,hr⟩
 ·exact .inl h2
 ·exact .inr ⟨g,cap,cur,e,hb,(hk g (by rw [e];rfl)).trans hh,hr⟩
def OutC (go:Nat) (pre:List (Value × List Rat)) (W:World):Prop:=∃v,W.heap[go]?=some (.cells #[v] 39 (0,0))∧OwnV W (go+1) v pre.length (pre.map fun y=>y.1)
theorem OwnG.slice {W:World} {B:Nat} {T:TypeId} {s:Nat} {C:Value→Prop} {v:Value} {n:Nat} {xs:List Value} (h:OwnG W B T s C v n xs):∃A c,v=.slice A n c:=by
 rcases h.2 with ⟨e,h0⟩|⟨g,cap,cur,e,-⟩
 ·exact⟨none,0,by rw [h0];exact e⟩
 ·exact⟨_,_,e⟩
theorem chain_p (M:Nat) (hM0:0<M) (hM:M≤268435456) (vp vq:Value) (p q:List Rat) (hlp:p.length≤100000) (hlq:q.length≤100000) (w:World) (hp:Pl w vp p) (hq:Pl w vq q) (hok:chainOk M p q=true):Calls Tryz.prog 57 #[vp,vq] w fun e w'=>∃v,e=.returned v∧PlL w' v (chainF p q)∧Ext w w':=by
 obtain⟨A,n,c,rfl,-⟩:=hp.form;obtain⟨A',n',c',rfl,-⟩:=hq.form
 have hcl:(chainF p q).length≤p.length+q.length+2:=by
  have:∀(k:Nat) (a b:List Rat),(chainU k a b).length≤k:=by
   intro k
   induction k with
   | zero=>intro a b;exact Nat.le_refl _
   | succ k ih=>
    intro a b;unfold chainU
    split
    ·exact Nat.zero_le _
    ·split
     ·simp
     ·rw [List.length_cons];exact Nat.succ_le_succ (ih _ _)
  exact this _ _ _
 have HCL:=ZZ (show (chainF p q).length≤300000 by omega);have HP:=ZZ hp;have HQ:=ZZ hq;have HLP:=ZZ hlp;have HLQ:=ZZ hlq;have HOK:=ZZ hok;have HM:=ZZ hM;have HM0:=ZZ hM0;clear hp hq hlp hlq hok hM hM0 hcl;refine(callsIn_wide (n:=4)).1 ?_;refine callsIn_of_wp_marks Tryz.func57 rfl trivial ?_ rfl
 simp only [Tryz.ntmps57,List.size_toArray,List.length_cons,List.length_nil,Nat.reduceAdd,Nat.reduceSub,Array.replicate_succ,Array.replicate_zero,List.push_toArray,List.append_toArray,List.nil_append,List.cons_append]
 have st:=sturm_c (.slice A n c) (.slice A' n' c') ⟨_,_,_,rfl⟩ ⟨_,_,_,rfl⟩
 gi_wp2_with (refine⟨trivial,?_⟩;gi_at_call 109;refine(callsIn_wide.2 (st _)).mono ?_;rintro e w' ⟨rfl,rfl⟩)
 clear st;obtain⟨go,hgo⟩:∃g,w.heap.size=g:=⟨_,rfl⟩;have sz:∀(W:World) (o:Obj),(W.alloc o).heap.size=W.heap.size+1:=fun W o=>World.size_alloc W o;obtain⟨W1,hW1⟩:∃W,W=w.alloc (.cells #[.slice none 0 0] 39):=⟨_,rfl⟩;have r1:W1.heap[go]?=some (.cells #[.slice none 0 0] 39 (0,0)):=by rw [hW1,←hgo];exact heap_alloc_new _ _
 have x1:Ext w W1:=by rw [hW1];exact ab _ _
 have s1:w.heap.size+1=W1.heap.size:=by rw [hW1];exact(sz _ _).symm
 rw [←hW1,hgo]
 simp only [←hgo,s1]
 have hgs:go<W1.heap.size:=lt_of_block r1;rw [hgo];clear hW1;obtain⟨gp,hgp⟩:∃g,W1.heap.size=g:=⟨_,rfl⟩;obtain⟨gq,hgq⟩:∃g,W1.heap.size+1=g:=⟨_,rfl⟩;obtain⟨gf,hgf⟩:∃g,W1.heap.size+1+1=g:=⟨_,rfl⟩;obtain⟨W4,hW4⟩:∃W,W=((W1.alloc (.cells #[.slice A n c] 25)).alloc (.cells #[.slice A' n' c'] 25)).alloc (.cells #[.func (.func 154) #[] #[]] 54):=⟨_,rfl⟩;have x4:Ext W1 W4:=by rw [hW4];exact ak (ab _ _) (ak (ab _ _) (ab _ _))
 have rp:W4.heap[gp]?=some (.cells #[.slice A n c] 25 (0,0)):=by
  have h:=(ak (ab (W1.alloc (.cells #[.slice A n c] 25)) (.cells #[.slice A' n' c'] 25)) (ab _ (.cells #[.func (.func 154) #[] #[]] 54))).block W1.heap.size (by rw [sz];omega:W1.heap.size<(W1.alloc (.cells #[.slice A n c] 25)).heap.size);rw [hW4,←hgp];exact h.trans (heap_alloc_new _ _)
 have rq:W4.heap[gq]?=some (.cells #[.slice A' n' c'] 25 (0,0)):=by
  have h:=(ab ((W1.alloc (.cells #[.slice A n c] 25)).alloc (.cells #[.slice A' n' c'] 25)) (.cells #[.func (.func 154) #[] #[]] 54)).block (W1.heap.size+1) (by rw [sz,sz];omega);rw [hW4,←hgq,h,←sz W1 (.cells #[.slice A n c] 25)];exact heap_alloc_new _ _
 have rf:W4.heap[gf]?=some (.cells #[.func (.func 154) #[] #[]] 54 (0,0)):=by
  rw [hW4,←hgf,←sz W1 (.cells #[.slice A n c] 25),←sz (W1.alloc (.cells #[.slice A n c] 25)) (.cells #[.slice A' n' c'] 25)];exact heap_alloc_new _ _
 rw [←hW4,hgf,hgq,hgp];clear hgp hgq hgf hW4 sz s1;have ro:=(x4.block _ hgs).trans r1;have x14:=ak x1 x4;have HP4:=ZZ (HP.out.mono x14);have HQ4:=ZZ (HQ.out.mono x14);have d1:w.heap.size≤go:=Nat.le_of_eq hgo;have d5:w.heap.size≤W4.heap.size:=x14.size;have d6:go<W4.heap.size:=lt_of_block ro;clear r1 x1 hgs x4;refine wpIn_rangeR (α:=Value × List Rat) (gf:=155) (lb:=#[.pointer (some ⟨gf,0,none⟩),.pointer (some ⟨gp,0,none⟩),.pointer (some ⟨gq,0,none⟩)]) rfl (enters_of Tryz.func155 (by kernel_rfl) rfl) (encs:=encC) (R:=fun x W=>Pl W x.1 x.2) (Z:=ZS) (S:=fun xs W=>xs.map (fun x=>x.2)=chainF p q∧∀x ∈ xs,Pl W x.1 x.2) (N:=(chainF p q).length) (w0:=W4) (fun l J W hW hJ hY h0=>sturm_in M HM0.out HM.out _ (by decide) l gf gp gq _ _ p q HLP.out HLQ.out HOK.out J hJ hY W (HP4.out.mono hW) (HQ4.out.mono hW) (ao hW (by rw [cell_of_row _ _ _ _ _ _ rf];rfl)) (ao hW (by rw [cell_of_row _ _ _ _ _ _ rp];rfl)) (ao hW (by rw [cell_of_row _ _ _ _ _ _ rq];rfl)) h0) (ae _) (fun _=>rfl) (fun pre W=>Hid (Ext w W∧OutC go pre W))
  (fun pre A B row hs hg hr=>by
   obtain⟨h1,v,h2,h3⟩:=hs.out
   exact ZZ ⟨ownz_ext h1 d5 hg hr,v,ownz_block hg hr h2,h3.other (fun g hgv=>by
    rcases h3.2 with ⟨e,-⟩|⟨g',cap,cur,e,-,hh,-⟩
    ·rw [e] at hgv;cases hgv
    ·rw [e] at hgv
     obtain rfl:g'=g:=Option.some.inj hgv;exact(ownz_block hg hr hh).trans hh.symm)⟩)
  (ZZ ⟨x14,_,ro,OwnG.nil _ _ _ _ _⟩)
  (fun y a' W=>isSl y.1∧a'={ tmps:=#[.slice A n c,.slice A' n' c',undef,undef,.slice none 0 0,.pointer (some ⟨go,0,none⟩),y.1,.slice A n c,.slice A' n' c',.func (.func 155) #[] #[.pointer (some ⟨gf,0,none⟩),.pointer (some ⟨gp,0,none⟩),.pointer (some ⟨gq,0,none⟩)],y.1,undef,undef,undef,undef,undef],defers:=[] })
  (fun y a' u A B row hs hg hr=>hs)
  (fun xs A B row hs hg hr=>⟨hs.1,fun x hx=>(hs.2 x hx).cb (ownz_cb hg hr)⟩) ?assign ?body ?done
 case assign=>
  rintro l pre ⟨v',q'⟩ W K hi hr hK;obtain⟨A5,n5,c5,e5,-⟩:=Pl.form hr;obtain rfl:v'=.slice A5 n5 c5:=e5;have hK2:=hK { tmps:=#[.slice A n c,.slice A' n' c',undef,undef,.slice none 0 0,.pointer (some ⟨go,0,none⟩),.slice A5 n5 c5,.slice A n c,.slice A' n' c',.func (.func 155) #[] #[.pointer (some ⟨gf,0,none⟩),.pointer (some ⟨gp,0,none⟩),.pointer (some ⟨gq,0,none⟩)],.slice A5 n5 c5,undef,undef,undef,undef,undef],defers:=[] } W (ae _) ⟨⟨_,_,_,rfl⟩,rfl⟩;clear hK hr hi
  simp only [encC]
  gi_wp2
  exact hK2
 case body=>
  rintro l pre ⟨v',q'⟩ a' W hI ⟨⟨A5,n5,c5,e5⟩,rfl⟩ hlen;obtain rfl:v'=.slice A5 n5 c5:=e5;obtain⟨hE,v,hO,hV⟩:=hI.out;obtain⟨Av,cv,ev⟩:=hV.slice;subst ev;have HEW:=ZZ hE;have HOR:=ZZ hO;have x1:=ab W (.cells #[.slice A5 n5 c5] 25);have HV1:=ZZ (hV.mono x1);have HX1:=ZZ x1;have C1:=ZZ (cell1_new W (.slice A5 n5 c5) 25);have HLN:=ZZ (show pre.length<300000 from Nat.lt_of_lt_of_le hlen HCL.out);have r0:W.cell? ⟨go,0,none⟩=some (.slice Av pre.length cv):=by rw [cell_of_row _ _ _ _ _ _ hO];rfl
  have HSZ:=ZZ (show go+1≤(W.alloc (.cells #[.slice A5 n5 c5] 25)).heap.size from by have h1:=lt_of_block hO;have h2:=x1.size;omega);obtain⟨np,hnp⟩:∃np,pre.length=np:=⟨_,rfl⟩;rw [hnp] at HV1 r0 HOR HLN;have HNP:=ZZ hnp;clear hE hO hV hI hlen x1 hnp
  gi_wp2_with (gi_at_builtin;refine wpListIn_appendG elPl zero_sl rfl _ _ rfl (go+1) (.slice Av np cv) np (pre.map fun (y:Value × List Rat)=>y.1) rfl HV1.out ⟨W.heap.size,0,none⟩ 1 _ [.slice A5 n5 c5] rfl rfl C1.out (by intro u hu;rw [List.mem_singleton.1 hu];rfl) (by intro u hu;rw [List.mem_singleton.1 hu];exact⟨_,_,_,rfl⟩) (by decide) (by have h1:=HLN.out;omega) (by have h1:=HLN.out;unfold maxLen;omega) HSZ.out ?_;intro v8 w8 hown8 hgrow;obtain⟨A8,c8,e8⟩:=hown8.slice;subst e8;have HG8:=ZZ hgrow;have HO8:=ZZ hown8;have ro8:=ZZ (show w8.heap[go]?=some (.cells #[.slice Av np cv] 39 (0,0)) from (hgrow.block go (by have h1:=HSZ.out;omega) (fun e=>by have h1:=(HV1.out.lt go e.symm).1;omega)).trans ((HX1.out.block _ (lt_of_block HOR.out)).trans HOR.out));have r8:w8.cell? ⟨go,0,none⟩=some (.slice Av np cv):=(by rw [cell_of_row _ _ _ _ _ _ ro8.out];rfl);have f8:=frozen_row ro8.out 0;clear hgrow hown8)
  gi_wp2
  have hOB:∀g,(Value.slice Av np cv).ownBlock=some g→g≠go:=fun g hg e=>by have h1:=(HV1.out.lt g hg).1;omega
  have hOB8:∀g,(Value.slice A8 (np+1) c8).ownBlock=some g→g≠go:=fun g hg e=>by have h1:=(HO8.out.lt g hg).1;omega
  have e1:Ext w (W.alloc (.cells #[.slice A5 n5 c5] 25)):=ak HEW.out HX1.out;have e8:Ext w w8:=Below.grown e1 HG8.out e1.size (fun k hk=>by have h1:=(HV1.out.lt k hk).1;omega);refine⟨?_,?_,?_⟩
  ·refine⟨?_,fun k o _ hk ho=>?_⟩
   ·simp [World.setCell]
    exact Nat.le_trans HX1.out.size HG8.out.size
   ·have hlt:=(Array.getElem?_eq_some_iff.1 hk).1
    have hk1:=(HX1.out.block _ hlt).trans hk;have hne:k≠go:=fun e=>by subst e;rw [HOR.out] at hk;cases hk;cases ho
    rw [Below.heap_setCell _ _ _ _ hne];refine(HG8.out.block k (Array.getElem?_eq_some_iff.1 hk1).1 (fun e=>?_)).trans hk1
    rcases HV1.out.2 with ⟨e2,-⟩|⟨g',cap,cur,e2,-,hh,-⟩
    ·rw [e2] at e;cases e
    ·rw [e2] at e
     obtain rfl:g'=k:=(Option.some.inj e).symm;rw [hh] at hk1;cases hk1;cases ho
  ·refine⟨?_,fun k o hk ho hz=>?_⟩
   ·simp [World.setCell]
    exact Nat.le_trans HX1.out.size HG8.out.size
   ·have hlt:=(Array.getElem?_eq_some_iff.1 hk).1
    have hk1:=(HX1.out.block _ hlt).trans hk;obtain⟨cs,T1,f1,rfl,cc,hcc,hns⟩:=hz
    have hne:k≠go:=fun e=>by
     subst e;rw [HOR.out] at hk
     cases hk
     rw [show (#[Value.slice Av np cv]:Array Value).toList=[.slice Av np cv] from rfl,List.mem_singleton] at hcc;exact hns (by rw [hcc];exact⟨_,_,_,rfl⟩)
    rw [Below.heap_setCell _ _ _ _ hne];refine(HG8.out.block k (Array.getElem?_eq_some_iff.1 hk1).1 (fun e=>?_)).trans hk1
    rcases HV1.out.2 with ⟨e2,-⟩|⟨g',cap,cur,e2,-,hh,-,-,-,-,hall⟩
    ·rw [e2] at e;cases e
    ·rw [e2] at e
     obtain rfl:g'=k:=(Option.some.inj e).symm;rw [hh] at hk1;cases hk1;exact hns (hall _ hcc)
  ·refine ZZ ⟨e8.setCell (p:=⟨go,0,none⟩) d1 _,.slice A8 (np+1) c8,?_,?_⟩
   ·have:=row_set ro8.out (j:=0) (.slice A8 (np+1) c8)
    simpa using this
   ·rw [List.length_append,List.length_singleton,List.map_append,List.map_singleton,HNP.out]
    exact HO8.out.other (fun g hg=>Below.heap_setCell _ _ _ _ (hOB8 g hg))
 case done=>
  rintro D xs W hD hs hI hK;obtain⟨hE,v,hO,hV⟩:=hI.out;obtain⟨Av,cv,ev⟩:=hV.slice;subst ev;obtain⟨np,hnp⟩:∃np,xs.length=np:=⟨_,rfl⟩
  have hL:OwnL W (go+1) (.slice Av xs.length cv) (chainF p q):=by
   refine⟨_,by rw [←hs.1,List.length_map];exact hV,fun i l' hl=>?_⟩;rw [←hs.1,List.getElem?_map] at hl;obtain⟨x,hx,rfl⟩:=Option.map_eq_some_iff.1 hl;exact⟨x.1,by rw [List.getElem?_map,hx];rfl,hs.2 x (List.mem_of_getElem? hx)⟩
  rw [hnp] at hL hO;have HEW:=ZZ hE;have HLW:=ZZ hL.pll;have HKD:=ZZ hK;have r0:W.cell? ⟨go,0,none⟩=some (.slice Av np cv):=by rw [cell_of_row _ _ _ _ _ _ hO];rfl
  clear hI hs hE hO hV hK hL hnp ro rf rp rq
  gi_wp2
  refine⟨by simp,.inl ⟨_,_,rfl,run_takeDeferred HKD.out,?_⟩⟩;exact⟨_,results_tmp rfl _ _ _,_,rfl,HLW.out.cb (ownz_cb (grownBy_putObj' _ _ _) (fun r e=>by cases e;exact⟨hD,_,HKD.out,rfl⟩)),ownz_ext HEW.out d5 (grownBy_putObj' _ _ _) (fun r e=>by cases e;exact⟨hD,_,HKD.out,rfl⟩)⟩
end Go.Proofs.YtoefieefcndlkaaGreatDoor
