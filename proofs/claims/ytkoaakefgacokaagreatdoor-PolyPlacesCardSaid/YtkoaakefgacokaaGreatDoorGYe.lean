/- Sturm's chain as a list. -/
import Derived.Test.YtkoaakefgacokaaGreatDoorGYd
import Derived.Test.YtkoaakefgacokaaGreatDoorGRg
set_option linter.unusedVariables false
set_option linter.unusedSimpArgs false
set_option maxRecDepth 100000
set_option maxHeartbeats 64000000
namespace Go.Proofs.YtkoaakefgacokaaGreatDoor
open Go Go.RowKit Go.Shelf
attribute [local go_sem] Oper.semAt_some
theorem wpListIn_appendG {F:Fence} {n₁:Nat} {P:Program} {S T:TypeId} {sz bytes:Nat} {z:Value} (E:ElT P S T sz bytes z) {C:Value→Prop} (hC0:∀c ∈ z.cells.toList,C c) {ops:Array Oper} {rest:List Oper} {o:Oper} {a:Act} {w:World} {Q:Exit→Act→World→Prop} (hgd:o.guard=none) (s x:Operand) (ho:o.op=.call { callee:=.builtin .append,args:=#[s,x],argTypes:=#[S,S] }) (B:Nat) (v:Value) (n:Nat) (xs:List Value) (hs:a.eval s=v) (hown:OwnG w B T sz C v n xs) (ad:Addr) (m c:Nat) (news:List Value) (hx:a.eval x=.slice (some ad) m c) (hl:news.length=m*sz) (hnews:∀j u,news[j]?=some u→w.cell? (ad.add j)=some u) (h1:∀u ∈ news,u.oneCell'=true) (hu:∀u ∈ news,C u) (hm:0<m) (hn:(n+m)*bytes≤140737488355328) (h63:n+m≤maxLen) (hB:B≤w.heap.size) (h:∀v' w',OwnG w' B T sz C v' (n+m) (xs ++ news)→w.grownBy w' v.ownBlock→wpListIn F n₁ P ops Q rest (a.put o.dst v') w'):wpListIn F n₁ P ops Q (o :: rest) a w:=by
 refine wpListIn_plain hgd fun K hK=>?_;obtain⟨v',w',hr,h2,h3⟩:=run_appendG E hC0 w B o.type v n xs hown ad m c news hl hnews h1 hu hm hn h63 hB;unfold Oper.wpIn;refine⟨by simp [Oper.about,ho,resolve,Target.leads,Sem.run_pure],?_⟩;rw [Oper.semAt_plain F _ _ (by rw [ho];intro c hc';cases hc')]
 simp [execOp,ho,resolve,invoke,builtin,hs,hx,hr,Result.andThen]
 exact hK _ _ (h v' w' h2 h3)
theorem PlL.cb {A B:World} {v:Value} {ls:List (List Rat)} (h:PlL A v ls) (k:Cb A B):PlL B v ls:=by
 obtain⟨X,cap,e,hc,hA⟩:=h;refine⟨X,cap,e,hc,?_⟩
 rcases hA with h|⟨b,o,e1,ht⟩
 ·exact .inl h
 ·exact .inr ⟨b,o,e1,fun i l hl=>by obtain⟨u,h1,h2⟩:=ht i l hl;exact⟨u,k _ _ _ h1,h2.cb k⟩⟩
theorem OwnG.other {W W':World} {B:Nat} {T:TypeId} {s:Nat} {C:Value→Prop} {v:Value} {n:Nat} {xs:List Value} (h:OwnG W B T s C v n xs) (hk:∀g,v.ownBlock=some g→W'.heap[g]?=W.heap[g]?):OwnG W' B T s C v n xs:=by
 obtain⟨h1,h2⟩:=h;refine⟨h1,?_⟩
 rcases h2 with h2|⟨g,cap,cur,e,hb,hh,hr⟩
 ·exact .inl h2
 ·exact .inr ⟨g,cap,cur,e,hb,(hk g (by rw [e];rfl)).trans hh,hr⟩
def OutC (go:Nat) (pre:List (Value × List Rat)) (W:World):Prop:=∃v,W.heap[go]?=some (.cells #[v] 69 (0,0))∧OwnV W (go+1) v pre.length (pre.map fun y=>y.1)
theorem OwnG.slice {W:World} {B:Nat} {T:TypeId} {s:Nat} {C:Value→Prop} {v:Value} {n:Nat} {xs:List Value} (h:OwnG W B T s C v n xs):∃A c,v=.slice A n c:=by
 rcases h.2 with ⟨e,h0⟩|⟨g,cap,cur,e,-⟩
 ·exact⟨none,0,by rw [h0];exact e⟩
 ·exact⟨_,_,e⟩
theorem chain_p (M:Nat) (hM0:0<M) (hM:M≤5400000000) (vp vq:Value) (p q:List Rat) (hlp:p.length≤100000) (hlq:q.length≤100000) (w:World) (hp:Pl w vp p) (hq:Pl w vq q) (hok:chainOk M p q=true):Calls Tryz.prog 30 #[vp,vq] w fun e w'=>∃v,e=.returned v∧PlL w' v (chainF p q)∧Ext w w':=by
 obtain⟨A,n,c,rfl,-⟩:=hp.form;obtain⟨A',n',c',rfl,-⟩:=hq.form
 have hcl:(chainF p q).length≤p.length+q.length+2:=by
  have:∀(k:Nat) (a b:List Rat),(chainU k a b).length≤k:=by
   intro k
   induction k with
   | zero=>intro a b;exact Nat.le_refl _
   | succ k ih=>
    intro a b;unfold chainU
    split
    ·exact Nat.zero_le _
    ·split
     ·simp
     ·rw [List.length_cons];exact Nat.succ_le_succ (ih _ _)
  exact this _ _ _
 have HCL:=ZZ (show (chainF p q).length≤300000 by omega);have HP:=ZZ hp;have HQ:=ZZ hq;have HLP:=ZZ hlp;have HLQ:=ZZ hlq;have HOK:=ZZ hok;have HM:=ZZ hM;have HM0:=ZZ hM0;clear hp hq hlp hlq hok hM hM0 hcl;refine(callsIn_wide (n:=4)).1 ?_;refine callsIn_of_wp_marks Tryz.func30 rfl trivial ?_ rfl
 simp only [Tryz.ntmps30,List.size_toArray,List.length_cons,List.length_nil,Nat.reduceAdd,Nat.reduceSub,Array.replicate_succ,Array.replicate_zero,List.push_toArray,List.append_toArray,List.nil_append,List.cons_append]
 have st:=sturm_c (.slice A n c) (.slice A' n' c') ⟨_,_,_,rfl⟩ ⟨_,_,_,rfl⟩
 gi_wp2_with (refine⟨trivial,?_⟩;gi_at_call 74;refine(callsIn_wide.2 (st _)).mono ?_;rintro e w' ⟨rfl,rfl⟩)
 clear st;obtain⟨go,hgo⟩:∃g,w.heap.size=g:=⟨_,rfl⟩;have sz:∀(W:World) (o:Obj),(W.alloc o).heap.size=W.heap.size+1:=fun W o=>World.size_alloc W o;obtain⟨W1,hW1⟩:∃W,W=w.alloc (.cells #[.slice none 0 0] 69):=⟨_,rfl⟩;have r1:W1.heap[go]?=some (.cells #[.slice none 0 0] 69 (0,0)):=by rw [hW1,←hgo];exact heap_alloc_new _ _
 have x1:Ext w W1:=by rw [hW1];exact ab _ _
 have s1:w.heap.size+1=W1.heap.size:=by rw [hW1];exact(sz _ _).symm
 rw [←hW1,hgo]
 simp only [←hgo,s1]
 have hgs:go<W1.heap.size:=lt_of_block r1;rw [hgo];clear hW1;obtain⟨gp,hgp⟩:∃g,W1.heap.size=g:=⟨_,rfl⟩;obtain⟨gq,hgq⟩:∃g,W1.heap.size+1=g:=⟨_,rfl⟩;obtain⟨gf,hgf⟩:∃g,W1.heap.size+1+1=g:=⟨_,rfl⟩;obtain⟨W4,hW4⟩:∃W,W=((W1.alloc (.cells #[.slice A n c] 27)).alloc (.cells #[.slice A' n' c'] 27)).alloc (.cells #[.func (.func 113) #[] #[]] 64):=⟨_,rfl⟩;have x4:Ext W1 W4:=by rw [hW4];exact al (ab _ _) (al (ab _ _) (ab _ _))
 have rp:W4.heap[gp]?=some (.cells #[.slice A n c] 27 (0,0)):=by
  have h:=(al (ab (W1.alloc (.cells #[.slice A n c] 27)) (.cells #[.slice A' n' c'] 27)) (ab _ (.cells #[.func (.func 113) #[] #[]] 64))).block W1.heap.size (by rw [sz];omega:W1.heap.size<(W1.alloc (.cells #[.slice A n c] 27)).heap.size);rw [hW4,←hgp];exact h.trans (heap_alloc_new _ _)
 have rq:W4.heap[gq]?=some (.cells #[.slice A' n' c'] 27 (0,0)):=by
  have h:=(ab ((W1.alloc (.cells #[.slice A n c] 27)).alloc (.cells #[.slice A' n' c'] 27)) (.cells #[.func (.func 113) #[] #[]] 64)).block (W1.heap.size+1) (by rw [sz,sz];omega);rw [hW4,←hgq,h,←sz W1 (.cells #[.slice A n c] 27)];exact heap_alloc_new _ _
 have rf:W4.heap[gf]?=some (.cells #[.func (.func 113) #[] #[]] 64 (0,0)):=by
  rw [hW4,←hgf,←sz W1 (.cells #[.slice A n c] 27),←sz (W1.alloc (.cells #[.slice A n c] 27)) (.cells #[.slice A' n' c'] 27)];exact heap_alloc_new _ _
 rw [←hW4,hgf,hgq,hgp];clear hgp hgq hgf hW4 sz s1;have ro:=(x4.block _ hgs).trans r1;have x14:=al x1 x4;have HP4:=ZZ (HP.out.mono x14);have HQ4:=ZZ (HQ.out.mono x14);have d1:w.heap.size≤go:=Nat.le_of_eq hgo;have d5:w.heap.size≤W4.heap.size:=x14.size;have d6:go<W4.heap.size:=lt_of_block ro;clear r1 x1 hgs x4;refine wpIn_rangeR (α:=Value × List Rat) (gf:=114) (lb:=#[.pointer (some ⟨gf,0,none⟩),.pointer (some ⟨gp,0,none⟩),.pointer (some ⟨gq,0,none⟩)]) rfl (enters_of Tryz.func114 (by kernel_rfl) rfl) (encs:=encC) (R:=fun x W=>Pl W x.1 x.2) (Z:=ZS) (S:=fun xs W=>xs.map (fun x=>x.2)=chainF p q∧∀x ∈ xs,Pl W x.1 x.2) (N:=(chainF p q).length) (w0:=W4) (fun l J W hW hJ hY h0=>sturm_in M HM0.out HM.out _ (by decide) l gf gp gq _ _ p q HLP.out HLQ.out HOK.out J hJ hY W (HP4.out.mono hW) (HQ4.out.mono hW) (ao hW (by rw [cell_of_row _ _ _ _ _ _ rf];rfl)) (ao hW (by rw [cell_of_row _ _ _ _ _ _ rp];rfl)) (ao hW (by rw [cell_of_row _ _ _ _ _ _ rq];rfl)) h0) (ae _) (fun _=>rfl) (fun pre W=>Hid (Ext w W∧OutC go pre W))
  (fun pre A B row hs hg hr=>by
   obtain⟨h1,v,h2,h3⟩:=hs.out
   exact ZZ ⟨ownz_ext h1 d5 hg hr,v,ownz_block hg hr h2,h3.other (fun g hgv=>by
    rcases h3.2 with ⟨e,-⟩|⟨g',cap,cur,e,-,hh,-⟩
    ·rw [e] at hgv;cases hgv
    ·rw [e] at hgv
     obtain rfl:g'=g:=Option.some.inj hgv;exact(ownz_block hg hr hh).trans hh.symm)⟩)
  (ZZ ⟨x14,_,ro,OwnG.nil _ _ _ _ _⟩)
  (fun y a' W=>isSl y.1∧a'={ tmps:=#[.slice A n c,.slice A' n' c',undef,undef,.slice none 0 0,.pointer (some ⟨go,0,none⟩),y.1,.slice A n c,.slice A' n' c',.func (.func 114) #[] #[.pointer (some ⟨gf,0,none⟩),.pointer (some ⟨gp,0,none⟩),.pointer (some ⟨gq,0,none⟩)],y.1,undef,undef,undef,undef,undef],defers:=[] })
  (fun y a' u A B row hs hg hr=>hs)
  (fun xs A B row hs hg hr=>⟨hs.1,fun x hx=>(hs.2 x hx).cb (ownz_cb hg hr)⟩) ?assign ?body ?done
 case assign=>
  rintro l pre ⟨v',q'⟩ W K hi hr hK;obtain⟨A5,n5,c5,e5,-⟩:=Pl.form hr;obtain rfl:v'=.slice A5 n5 c5:=e5;have hK2:=hK { tmps:=#[.slice A n c,.slice A' n' c',undef,undef,.slice none 0 0,.pointer (some ⟨go,0,none⟩),.slice A5 n5 c5,.slice A n c,.slice A' n' c',.func (.func 114) #[] #[.pointer (some ⟨gf,0,none⟩),.pointer (some ⟨gp,0,none⟩),.pointer (some ⟨gq,0,none⟩)],.slice A5 n5 c5,undef,undef,undef,undef,undef],defers:=[] } W (ae _) ⟨⟨_,_,_,rfl⟩,rfl⟩;clear hK hr hi
  simp only [encC]
  gi_wp2
  exact hK2
 case body=>
  rintro l pre ⟨v',q'⟩ a' W hI ⟨⟨A5,n5,c5,e5⟩,rfl⟩ hlen;obtain rfl:v'=.slice A5 n5 c5:=e5;obtain⟨hE,v,hO,hV⟩:=hI.out;obtain⟨Av,cv,ev⟩:=hV.slice;subst ev;have HEW:=ZZ hE;have HOR:=ZZ hO;have x1:=ab W (.cells #[.slice A5 n5 c5] 27);have HV1:=ZZ (hV.mono x1);have HX1:=ZZ x1;have C1:=ZZ (cell1_new W (.slice A5 n5 c5) 27);have HLN:=ZZ (show pre.length<300000 from Nat.lt_of_lt_of_le hlen HCL.out);have r0:W.cell? ⟨go,0,none⟩=some (.slice Av pre.length cv):=by rw [cell_of_row _ _ _ _ _ _ hO];rfl
  have HSZ:=ZZ (show go+1≤(W.alloc (.cells #[.slice A5 n5 c5] 27)).heap.size from by have h1:=lt_of_block hO;have h2:=x1.size;omega);obtain⟨np,hnp⟩:∃np,pre.length=np:=⟨_,rfl⟩;rw [hnp] at HV1 r0 HOR HLN;have HNP:=ZZ hnp;clear hE hO hV hI hlen x1 hnp
  gi_wp2_with (gi_at_builtin;refine wpListIn_appendG elPl zero_sl rfl _ _ rfl (go+1) (.slice Av np cv) np (pre.map fun (y:Value × List Rat)=>y.1) rfl HV1.out ⟨W.heap.size,0,none⟩ 1 _ [.slice A5 n5 c5] rfl rfl C1.out (by intro u hu;rw [List.mem_singleton.1 hu];rfl) (by intro u hu;rw [List.mem_singleton.1 hu];exact⟨_,_,_,rfl⟩) (by decide) (by have h1:=HLN.out;omega) (by have h1:=HLN.out;unfold maxLen;omega) HSZ.out ?_;intro v8 w8 hown8 hgrow;obtain⟨A8,c8,e8⟩:=hown8.slice;subst e8;have HG8:=ZZ hgrow;have HO8:=ZZ hown8;have ro8:=ZZ (show w8.heap[go]?=some (.cells #[.slice Av np cv] 69 (0,0)) from (hgrow.block go (by have h1:=HSZ.out;omega) (fun e=>by have h1:=(HV1.out.lt go e.symm).1;omega)).trans ((HX1.out.block _ (lt_of_block HOR.out)).trans HOR.out));have r8:w8.cell? ⟨go,0,none⟩=some (.slice Av np cv):=(by rw [cell_of_row _ _ _ _ _ _ ro8.out];rfl);have f8:=frozen_row ro8.out 0;clear hgrow hown8)
  gi_wp2
  have hOB:∀g,(Value.slice Av np cv).ownBlock=some g→g≠go:=fun g hg e=>by have h1:=(HV1.out.lt g hg).1;omega
  have hOB8:∀g,(Value.slice A8 (np+1) c8).ownBlock=some g→g≠go:=fun g hg e=>by have h1:=(HO8.out.lt g hg).1;omega
  have e1:Ext w (W.alloc (.cells #[.slice A5 n5 c5] 27)):=al HEW.out HX1.out;have e8:Ext w w8:=Below.grown e1 HG8.out e1.size (fun k hk=>by have h1:=(HV1.out.lt k hk).1;omega);refine⟨?_,?_,?_⟩
  ·refine⟨?_,fun k o _ hk ho=>?_⟩
   ·simp [World.setCell]
    exact Nat.le_trans HX1.out.size HG8.out.size
   ·have hlt:=(Array.getElem?_eq_some_iff.1 hk).1
    have hk1:=(HX1.out.block _ hlt).trans hk;have hne:k≠go:=fun e=>by subst e;rw [HOR.out] at hk;cases hk;cases ho
    rw [Below.heap_setCell _ _ _ _ hne];refine(HG8.out.block k (Array.getElem?_eq_some_iff.1 hk1).1 (fun e=>?_)).trans hk1
    rcases HV1.out.2 with ⟨e2,-⟩|⟨g',cap,cur,e2,-,hh,-⟩
    ·rw [e2] at e;cases e
    ·rw [e2] at e
     obtain rfl:g'=k:=(Option.some.inj e).symm;rw [hh] at hk1;cases hk1;cases ho
  ·refine⟨?_,fun k o hk ho hz=>?_⟩
   ·simp [World.setCell]
    exact Nat.le_trans HX1.out.size HG8.out.size
   ·have hlt:=(Array.getElem?_eq_some_iff.1 hk).1
    have hk1:=(HX1.out.block _ hlt).trans hk;obtain⟨cs,T1,f1,rfl,cc,hcc,hns⟩:=hz
    have hne:k≠go:=fun e=>by
     subst e;rw [HOR.out] at hk
     cases hk
     rw [show (#[Value.slice Av np cv]:Array Value).toList=[.slice Av np cv] from rfl,List.mem_singleton] at hcc;exact hns (by rw [hcc];exact⟨_,_,_,rfl⟩)
    rw [Below.heap_setCell _ _ _ _ hne];refine(HG8.out.block k (Array.getElem?_eq_some_iff.1 hk1).1 (fun e=>?_)).trans hk1
    rcases HV1.out.2 with ⟨e2,-⟩|⟨g',cap,cur,e2,-,hh,-,-,-,-,hall⟩
    ·rw [e2] at e;cases e
    ·rw [e2] at e
     obtain rfl:g'=k:=(Option.some.inj e).symm;rw [hh] at hk1;cases hk1;exact hns (hall _ hcc)
  ·refine ZZ ⟨e8.setCell (p:=⟨go,0,none⟩) d1 _,.slice A8 (np+1) c8,?_,?_⟩
   ·have:=row_set ro8.out (j:=0) (.slice A8 (np+1) c8)
    simpa using this
   ·rw [List.length_append,List.length_singleton,List.map_append,List.map_singleton,HNP.out]
    exact HO8.out.other (fun g hg=>Below.heap_setCell _ _ _ _ (hOB8 g hg))
 case done=>
  rintro D xs W hD hs hI hK;obtain⟨hE,v,hO,hV⟩:=hI.out;obtain⟨Av,cv,ev⟩:=hV.slice;subst ev;obtain⟨np,hnp⟩:∃np,xs.length=np:=⟨_,rfl⟩
  have hL:OwnL W (go+1) (.slice Av xs.length cv) (chainF p q):=by
   refine⟨_,by rw [←hs.1,List.length_map];exact hV,fun i l' hl=>?_⟩;rw [←hs.1,List.getElem?_map] at hl;obtain⟨x,hx,rfl⟩:=Option.map_eq_some_iff.1 hl;exact⟨x.1,by rw [List.getElem?_map,hx];rfl,hs.2 x (List.mem_of_getElem? hx)⟩
  rw [hnp] at hL hO;have HEW:=ZZ hE;have HLW:=ZZ hL.pll;have HKD:=ZZ hK;have r0:W.cell? ⟨go,0,none⟩=some (.slice Av np cv):=by rw [cell_of_row _ _ _ _ _ _ hO];rfl
  clear hI hs hE hO hV hK hL hnp ro rf rp rq
  gi_wp2
  refine⟨by simp,.inl ⟨_,_,rfl,run_takeDeferred HKD.out,?_⟩⟩;exact⟨_,results_tmp rfl _ _ _,_,rfl,HLW.out.cb (ownz_cb (grownBy_putObj' _ _ _) (fun r e=>by cases e;exact⟨hD,_,HKD.out,rfl⟩)),ownz_ext HEW.out d5 (grownBy_putObj' _ _ _) (fun r e=>by cases e;exact⟨hD,_,HKD.out,rfl⟩)⟩
end Go.Proofs.YtkoaakefgacokaaGreatDoor
namespace Go.Proofs.YtkoaakefgacokaaGreatDoor
open Go.RowKit
theorem odd_cop {u:Nat} (hu:u % 2=1) (j:Nat):Nat.Coprime (2 ^ j) u:=by
 apply Nat.Coprime.pow_left
 show Nat.gcd 2 u=1
 rw [Nat.gcd_rec,hu]
 rfl
theorem gcd_two {i k u v:Nat} (hu:u % 2=1) (hv:v % 2=1):Nat.gcd (2 ^ i*u) (2 ^ k*v)=Nat.gcd u v*2 ^ min i k:=by
 rcases Nat.le_total i k with h|h
 ·obtain⟨j,rfl⟩:∃j,k=i+j:=⟨k - i,by omega⟩
  rw [Nat.pow_add,Nat.mul_assoc,Nat.gcd_mul_left,Nat.Coprime.gcd_mul_left_cancel_right v (odd_cop hu j),Nat.min_eq_left h,Nat.mul_comm]
 ·obtain⟨j,rfl⟩:∃j,i=k+j:=⟨i - k,by omega⟩
  rw [Nat.pow_add,Nat.mul_assoc,Nat.gcd_mul_left,Nat.Coprime.gcd_mul_left_cancel u (odd_cop hv j),Nat.min_eq_right h,Nat.mul_comm]
theorem gcd_step {x y z u:Nat} (hy:y % 2=1) (hle:y≤x) (h:x - y=2 ^ z*u):Nat.gcd u y=Nat.gcd x y:=by
 rw [←Nat.gcd_sub_self_left hle,h,Nat.Coprime.gcd_mul_left_cancel u (odd_cop hy z)]
theorem zeros_small {n z u:Nat} (h0:0<n) (h:n=2 ^ z*u) (hl:(dr n).length≤34359738368):z≤1030792151040∧n / 2 ^ z=u:=by
 have hp:0<2 ^ z:=Nat.pow_pos (by omega)
 have hu:0<u:=by
  rcases Nat.eq_zero_or_pos u with h'|h'
  ·rw [h',Nat.mul_zero] at h;omega
  ·exact h'
 constructor
 ·have h1:2 ^ z*1≤2 ^ z*u:=Nat.mul_le_mul_left _ hu
  have h2:=lt_dig_length B30_two n
  have h3:2 ^ z<2 ^ (30*(dr n).length):=by
   have e:=B30_pow (dr n).length;unfold dr at e ⊢;rw [←e];omega
  have:=(Nat.pow_lt_pow_iff_right (by omega:1<2)).1 h3
  omega
 ·rw [h,Nat.mul_div_cancel_left _ hp]
theorem divisor_r (va vb:Value) (m n:Nat) (h0:0<n) (w:World) (ha:Wr w va m) (hb:Wr w vb n) (sa:(dr m).length≤34359738368) (sb:(dr n).length≤34359738368):Calls Tryz.prog 61 #[va,vb] w fun e w'=>∃v,e=.returned v∧Wr w' v (Nat.gcd m n)∧Ext w w':=by
 have HB:=ZZ hb;have HG:=ZZ (show Nat.gcd m n=Nat.gcd (m % n) n by rw [Nat.gcd_comm m n,Nat.gcd_rec]);have SB:=ZZ (show Sr n by unfold Sr;omega);have H0:=ZZ h0;have HD:=ZZ (divided_r va vb m n h0 w ha hb (by omega) (by omega));have hml:(dr (m % n)).length≤34359738368:=Nat.le_trans (dig_length_mono B30_two (Nat.le_of_lt (Nat.mod_lt m h0))) sb;have HNL:=ZZ sb;clear ha hb sa h0
 go_enter Tryz.func61,Tryz.ntmps61
 go_wp2_with fail;refine HD.out.mono ?_
 rintro e w1 ⟨vq,vr,rfl,-,hr,k1⟩;generalize m % n=r at *;obtain⟨A,c,rfl,hc,hcl⟩:=hr;have X1:=ZZ k1;have HR:=ZZ (show Wr w1 (.slice A (dr r).length c) r from ⟨A,c,rfl,hc,hcl⟩);have HRL:=ZZ hml;clear HD k1 hcl
 by_cases hz:r=0
 ·subst hz
  rw [dr_zero];go_wp2_with fail;go_ret;exact⟨_,rfl,by rw [HG.out,Nat.gcd_zero_left];exact HB.out.mono X1.out,X1.out⟩
 ·have hrp:0<r:=by omega
  have hlz:(((dr r).length:Int) == 0)=false:=by
   have h1:0<(dr r).length:=List.length_pos_iff.2 (dig_ne_nil B30_two hrp);rw [beq_eq_false_iff_ne];omega
  have hlz2:¬(dr r).length=0:=by
   have h1:0<(dr r).length:=List.length_pos_iff.2 (dig_ne_nil B30_two hrp);omega
  have SR:=ZZ (show Sr r by unfold Sr;omega);go_wp2_with fail;refine(zeros_r _ r hrp _ HR.out SR.out).mono ?_;rintro e w2 ⟨⟨zi,u,rfl,hu1,hu2⟩,rfl⟩;have HU1:=ZZ hu1;have HU2:=ZZ hu2;clear hu1 hu2;go_wp2_with fail;refine(zeros_r vb n H0.out _ (HB.out.mono X1.out) SB.out).mono ?_;rintro e w2 ⟨⟨zk,v,rfl,hv1,hv2⟩,rfl⟩;obtain⟨zib,hru⟩:=zeros_small hrp HU1.out HRL.out;obtain⟨zkb,hnv⟩:=zeros_small H0.out hv1 HNL.out;have HGG:=ZZ (show Nat.gcd m n=Nat.gcd u v*2 ^ min zi zk by rw [HG.out,HU1.out,hv1,gcd_two HU2.out hv2]);have HZI:=ZZ (show zi≤35184372088832 by omega);have HZK:=ZZ (show zk≤35184372088832 by omega);have HV2:=ZZ hv2;have HRU:=ZZ hru;have HNV:=ZZ hnv;have HUL:=ZZ (show (dr u).length≤34359738368 from Nat.le_trans (dig_length_mono B30_two (by rw [←hru];exact Nat.div_le_self _ _)) HRL.out);have HVL:=ZZ (show (dr v).length≤34359738368 from Nat.le_trans (dig_length_mono B30_two (by rw [←hnv];exact Nat.div_le_self _ _)) HNL.out);clear hv1 hv2 hru hnv hlz hlz2 hml;go_wp2_with fail;refine(right_r _ r zi HZI.out _ HR.out SR.out).mono ?_;rintro e w3 ⟨vx,rfl,h3,k3⟩;rw [HRU.out] at h3;have H3:=ZZ h3;have X3:=ZZ (al X1.out k3);clear h3 k3;go_wp2_with fail;refine(right_r vb n zk HZK.out _ (HB.out.mono X3.out) SB.out).mono ?_;rintro e w4 ⟨vy,rfl,h4,k4⟩;rw [HNV.out] at h4;have H4:=ZZ h4;have H3':=ZZ (H3.out.mono k4);have X4:=ZZ (al X3.out k4);clear h4 k4 H3 HR HB SR SB;obtain⟨mk,hmk⟩:∃mk:Nat,min (zi:Int) (zk:Int)=(mk:Int)∧mk=min zi zk∧mk≤1099511627776:=⟨min zi zk,by omega,rfl,by omega⟩
  obtain⟨hmn,hmk2,hmk3⟩:=hmk;rw [←hmk2] at HGG;clear hmk2;go_wp2_with fail
  go_loopg [0,1] (u+v) (fun gk p q wr=>∃X Y:Nat,gk=X+Y∧Hid (Wr wr p X)∧Hid (Wr wr q Y)∧X % 2=1∧Y % 2=1∧Nat.gcd X Y=Nat.gcd u v∧(dr X).length≤34359738368∧(dr Y).length≤34359738368∧Hid (Ext w wr))
  case atStart=>exact⟨u,v,rfl,H3',H4,HU2.out,HV2.out,rfl,HUL.out,HVL.out,X4⟩
  case round=>
   obtain⟨X,Y,hgk,HX,HY,hX2,hY2,hg,hXl,hYl,HE⟩:=hrel;have HX2:=ZZ hX2;have HY2:=ZZ hY2;have HGX:=ZZ hg;have SX:=ZZ (show Sr X by unfold Sr;omega);have SY:=ZZ (show Sr Y by unfold Sr;omega);have HGK:=ZZ hgk;have HXP:=ZZ (show 0<X by omega);have HYP:=ZZ (show 0<Y by omega);clear hX2 hY2 hg hgk;obtain⟨AX,cX,rfl,hcX,hclX⟩:=HX.out;obtain⟨AY,cY,rfl,hcY,hclY⟩:=HY.out;clear hclX hclY;have HXL:=ZZ hXl;have HYL:=ZZ hYl;generalize hlx:(dr X).length=lx at *;generalize hly:(dr Y).length=ly at *;have HLX:=ZZ hlx;have HLY:=ZZ hly;have HXD:=ZZ (show (dr X).length≤34359738368 by rw [HLX.out];exact HXL.out);have HYD:=ZZ (show (dr Y).length≤34359738368 by rw [HLY.out];exact HYL.out);clear hlx hly
   by_cases hA:2<lx
   ·go_wp2_with fail
    refine(order_r _ _ X Y _ HX.out HY.out SX.out SY.out).mono ?_;rintro e w5 ⟨rfl,q5,rfl⟩
    rcases Nat.lt_trichotomy X Y with hxy|hxy|hxy
    ·rw [ordN_lt hxy]
     have HLT:=ZZ hxy;clear hxy;go_wp2_with fail;refine(minus_r _ _ Y X _ (HY.out.mono (av _ _)) (HX.out.mono (av _ _)) SY.out (Nat.le_of_lt HLT.out)).mono ?_;rintro e w6 ⟨v6,rfl,h6,k6⟩;have HS6:=ZZ (show Sr (Y - X) from Nat.le_trans (dig_length_mono B30_two (Nat.sub_le _ _)) SY.out);have H6:=ZZ h6;have E6:=ZZ (al HE.out (al (av _ _) k6));have HY6:=ZZ (HX.out.mono (al (av _ _) k6));clear h6 k6;go_wp2_with fail;refine(zeros_r v6 (Y - X) (by have:=HLT.out;omega) _ H6.out HS6.out).mono ?_;rintro e w7 ⟨⟨zz,uu,rfl,hz1,hz2⟩,rfl⟩;have HZ1:=ZZ hz1;have HZ2:=ZZ hz2;have HD7:=ZZ (show (dr (Y - X)).length≤34359738368 from Nat.le_trans (dig_length_mono B30_two (Nat.sub_le _ _)) HYD.out);obtain⟨zzb,hdv⟩:=zeros_small (by have:=HLT.out;omega) hz1 HD7.out;have HDV:=ZZ hdv;clear hz1 hz2 hdv;go_wp2_with fail;refine(right_r v6 (Y - X) zz (by omega) _ H6.out HS6.out).mono ?_;rintro e w8 ⟨v8,rfl,h8,k8⟩;rw [HDV.out] at h8;have H8:=ZZ h8;have E8:=ZZ (al E6.out k8);have HY8:=ZZ (HY6.out.mono k8);clear h8 k8;go_wp2_with fail
     go_roundg (uu+X)
     case measure=>
      have h1:=HZ1.out;have h2:=HLT.out;have h3:1*uu≤2 ^ zz*uu:=Nat.mul_le_mul_right _ (Nat.pow_pos (by omega));have h4:=HGK.out;have h5:=HYP.out;have h6:=HXP.out;omega
     case rel=>
      refine⟨uu,X,rfl,H8,HY8,HZ2.out,HX2.out,?_,?_,HXD.out,E8⟩
      ·rw [gcd_step HX2.out (Nat.le_of_lt HLT.out) HZ1.out]
       first|exact HGX.out|(rw [Nat.gcd_comm];exact HGX.out)
      ·refine Nat.le_trans (dig_length_mono B30_two ?_) HD7.out
       rw [←HDV.out];exact Nat.div_le_self _ _
    ·rw [ordN_eq hxy]
     have HEQ:=ZZ hxy;clear hxy;go_wp2_with fail;refine(left_r _ X mk (by omega) _ (HX.out.mono (av _ _)) SX.out).mono ?_;rintro e w6 ⟨v6,rfl,h6,k6⟩;have H6:=ZZ h6;have E6:=ZZ (al HE.out (al (av _ _) k6));clear h6 k6;go_wp2_with fail;go_ret;refine⟨_,rfl,?_,E6.out⟩;rw [HGG.out,←HGX.out,←HEQ.out,Nat.gcd_self];exact H6.out
    ·rw [ordN_gt hxy]
     have HLT:=ZZ hxy;clear hxy;go_wp2_with fail;refine(minus_r _ _ X Y _ (HX.out.mono (av _ _)) (HY.out.mono (av _ _)) SX.out (Nat.le_of_lt HLT.out)).mono ?_;rintro e w6 ⟨v6,rfl,h6,k6⟩;have HS6:=ZZ (show Sr (X - Y) from Nat.le_trans (dig_length_mono B30_two (Nat.sub_le _ _)) SX.out);have H6:=ZZ h6;have E6:=ZZ (al HE.out (al (av _ _) k6));have HY6:=ZZ (HY.out.mono (al (av _ _) k6));clear h6 k6;go_wp2_with fail;refine(zeros_r v6 (X - Y) (by have:=HLT.out;omega) _ H6.out HS6.out).mono ?_;rintro e w7 ⟨⟨zz,uu,rfl,hz1,hz2⟩,rfl⟩;have HZ1:=ZZ hz1;have HZ2:=ZZ hz2;have HD7:=ZZ (show (dr (X - Y)).length≤34359738368 from Nat.le_trans (dig_length_mono B30_two (Nat.sub_le _ _)) HXD.out);obtain⟨zzb,hdv⟩:=zeros_small (by have:=HLT.out;omega) hz1 HD7.out;have HDV:=ZZ hdv;clear hz1 hz2 hdv;go_wp2_with fail;refine(right_r v6 (X - Y) zz (by omega) _ H6.out HS6.out).mono ?_;rintro e w8 ⟨v8,rfl,h8,k8⟩;rw [HDV.out] at h8;have H8:=ZZ h8;have E8:=ZZ (al E6.out k8);have HY8:=ZZ (HY6.out.mono k8);clear h8 k8;go_wp2_with fail
     go_roundg (uu+Y)
     case measure=>
      have h1:=HZ1.out;have h2:=HLT.out;have h3:1*uu≤2 ^ zz*uu:=Nat.mul_le_mul_right _ (Nat.pow_pos (by omega));have h4:=HGK.out;have h5:=HYP.out;have h6:=HXP.out;omega
     case rel=>
      refine⟨uu,Y,rfl,H8,HY8,HZ2.out,HY2.out,?_,?_,HYD.out,E8⟩
      ·rw [gcd_step HY2.out (Nat.le_of_lt HLT.out) HZ1.out]
       first|exact HGX.out|(rw [Nat.gcd_comm];exact HGX.out)
      ·refine Nat.le_trans (dig_length_mono B30_two ?_) HD7.out
       rw [←HDV.out];exact Nat.div_le_self _ _
   ·by_cases hB:2<ly
    ·go_wp2_with fail
     refine(order_r _ _ X Y _ HX.out HY.out SX.out SY.out).mono ?_;rintro e w5 ⟨rfl,q5,rfl⟩
     rcases Nat.lt_trichotomy X Y with hxy|hxy|hxy
     ·rw [ordN_lt hxy]
      have HLT:=ZZ hxy;clear hxy;go_wp2_with fail;refine(minus_r _ _ Y X _ (HY.out.mono (av _ _)) (HX.out.mono (av _ _)) SY.out (Nat.le_of_lt HLT.out)).mono ?_;rintro e w6 ⟨v6,rfl,h6,k6⟩;have HS6:=ZZ (show Sr (Y - X) from Nat.le_trans (dig_length_mono B30_two (Nat.sub_le _ _)) SY.out);have H6:=ZZ h6;have E6:=ZZ (al HE.out (al (av _ _) k6));have HY6:=ZZ (HX.out.mono (al (av _ _) k6));clear h6 k6;go_wp2_with fail;refine(zeros_r v6 (Y - X) (by have:=HLT.out;omega) _ H6.out HS6.out).mono ?_;rintro e w7 ⟨⟨zz,uu,rfl,hz1,hz2⟩,rfl⟩;have HZ1:=ZZ hz1;have HZ2:=ZZ hz2;have HD7:=ZZ (show (dr (Y - X)).length≤34359738368 from Nat.le_trans (dig_length_mono B30_two (Nat.sub_le _ _)) HYD.out);obtain⟨zzb,hdv⟩:=zeros_small (by have:=HLT.out;omega) hz1 HD7.out;have HDV:=ZZ hdv;clear hz1 hz2 hdv;go_wp2_with fail;refine(right_r v6 (Y - X) zz (by omega) _ H6.out HS6.out).mono ?_;rintro e w8 ⟨v8,rfl,h8,k8⟩;rw [HDV.out] at h8;have H8:=ZZ h8;have E8:=ZZ (al E6.out k8);have HY8:=ZZ (HY6.out.mono k8);clear h8 k8;go_wp2_with fail
      go_roundg (uu+X)
      case measure=>
       have h1:=HZ1.out;have h2:=HLT.out;have h3:1*uu≤2 ^ zz*uu:=Nat.mul_le_mul_right _ (Nat.pow_pos (by omega));have h4:=HGK.out;have h5:=HYP.out;have h6:=HXP.out;omega
      case rel=>
       refine⟨uu,X,rfl,H8,HY8,HZ2.out,HX2.out,?_,?_,HXD.out,E8⟩
       ·rw [gcd_step HX2.out (Nat.le_of_lt HLT.out) HZ1.out]
        first|exact HGX.out|(rw [Nat.gcd_comm];exact HGX.out)
       ·refine Nat.le_trans (dig_length_mono B30_two ?_) HD7.out
        rw [←HDV.out];exact Nat.div_le_self _ _
     ·rw [ordN_eq hxy]
      have HEQ:=ZZ hxy;clear hxy;go_wp2_with fail;refine(left_r _ X mk (by omega) _ (HX.out.mono (av _ _)) SX.out).mono ?_;rintro e w6 ⟨v6,rfl,h6,k6⟩;have H6:=ZZ h6;have E6:=ZZ (al HE.out (al (av _ _) k6));clear h6 k6;go_wp2_with fail;go_ret;refine⟨_,rfl,?_,E6.out⟩;rw [HGG.out,←HGX.out,←HEQ.out,Nat.gcd_self];exact H6.out
     ·rw [ordN_gt hxy]
      have HLT:=ZZ hxy;clear hxy;go_wp2_with fail;refine(minus_r _ _ X Y _ (HX.out.mono (av _ _)) (HY.out.mono (av _ _)) SX.out (Nat.le_of_lt HLT.out)).mono ?_;rintro e w6 ⟨v6,rfl,h6,k6⟩;have HS6:=ZZ (show Sr (X - Y) from Nat.le_trans (dig_length_mono B30_two (Nat.sub_le _ _)) SX.out);have H6:=ZZ h6;have E6:=ZZ (al HE.out (al (av _ _) k6));have HY6:=ZZ (HY.out.mono (al (av _ _) k6));clear h6 k6;go_wp2_with fail;refine(zeros_r v6 (X - Y) (by have:=HLT.out;omega) _ H6.out HS6.out).mono ?_;rintro e w7 ⟨⟨zz,uu,rfl,hz1,hz2⟩,rfl⟩;have HZ1:=ZZ hz1;have HZ2:=ZZ hz2;have HD7:=ZZ (show (dr (X - Y)).length≤34359738368 from Nat.le_trans (dig_length_mono B30_two (Nat.sub_le _ _)) HXD.out);obtain⟨zzb,hdv⟩:=zeros_small (by have:=HLT.out;omega) hz1 HD7.out;have HDV:=ZZ hdv;clear hz1 hz2 hdv;go_wp2_with fail;refine(right_r v6 (X - Y) zz (by omega) _ H6.out HS6.out).mono ?_;rintro e w8 ⟨v8,rfl,h8,k8⟩;rw [HDV.out] at h8;have H8:=ZZ h8;have E8:=ZZ (al E6.out k8);have HY8:=ZZ (HY6.out.mono k8);clear h8 k8;go_wp2_with fail
      go_roundg (uu+Y)
      case measure=>
       have h1:=HZ1.out;have h2:=HLT.out;have h3:1*uu≤2 ^ zz*uu:=Nat.mul_le_mul_right _ (Nat.pow_pos (by omega));have h4:=HGK.out;have h5:=HYP.out;have h6:=HXP.out;omega
      case rel=>
       refine⟨uu,Y,rfl,H8,HY8,HZ2.out,HY2.out,?_,?_,HYD.out,E8⟩
       ·rw [gcd_step HY2.out (Nat.le_of_lt HLT.out) HZ1.out]
        first|exact HGX.out|(rw [Nat.gcd_comm];exact HGX.out)
       ·refine Nat.le_trans (dig_length_mono B30_two ?_) HD7.out
        rw [←HDV.out];exact Nat.div_le_self _ _
    ·have hlx2:lx≤2:=by omega
     have hly2:ly≤2:=by omega
     have HL1:=ZZ (show (dr X).length≤2 by rw [HLX.out];exact hlx2);have HL2:=ZZ (show (dr Y).length≤2 by rw [HLY.out];exact hly2)
     have hXb:X<1152921504606846976:=by
      have h1:=lt_dig_length B30_two X;have h2:B30 ^ (dig B30 X).length≤B30 ^ 2:=Nat.pow_le_pow_right (by rw [B30_eq];omega) HL1.out;have h3:B30 ^ 2=1152921504606846976:=by rw [B30_eq]
      omega
     have hYb:Y<1152921504606846976:=by
      have h1:=lt_dig_length B30_two Y;have h2:B30 ^ (dig B30 Y).length≤B30 ^ 2:=Nat.pow_le_pow_right (by rw [B30_eq];omega) HL2.out;have h3:B30 ^ 2=1152921504606846976:=by rw [B30_eq]
      omega
     go_wp2_with fail;refine(short_r _ X _ HX.out HL1.out).mono ?_
     rintro e w5 ⟨rfl,rfl⟩;go_wp2_with fail;refine(short_r _ Y _ HY.out HL2.out).mono ?_;rintro e w5 ⟨rfl,rfl⟩;have HXB:=ZZ hXb;have HYB:=ZZ hYb;clear hXb hYb;go_wp2_with fail
     go_loopg [8,9] Y (fun gk x y wx=>∃P q:Nat,x=.int .i64 (P:Int)∧y=.int .i64 (gk:Int)∧Nat.gcd P gk=Nat.gcd u v∧P<1152921504606846976∧gk<1152921504606846976∧wx=wr.drewN q)
     case atStart=>exact⟨X,0,rfl,rfl,HGX.out,HXB.out,HYB.out,rfl⟩
     case round=>
      obtain⟨P,q,rfl,rfl,hg,hP,hgk,rfl⟩:=hrel;have HG2:=ZZ hg;clear hg
      rcases Nat.eq_zero_or_pos gk with hz|hz
      ·subst hz
       have HPG:=ZZ (show P=Nat.gcd u v by have:=HG2.out;rwa [Nat.gcd_zero_right] at this);go_wp2_with fail;refine(small_r P hP _).mono ?_;rintro e w8 ⟨v8,rfl,h8,k8⟩;have H8:=ZZ h8;have E8:=ZZ (al HE.out (al (av _ _) k8))
       have SP:=ZZ (show Sr P by
        unfold Sr;exact Nat.le_trans (dig_length_le B30_two (k:=2) (by rw [B30_eq];omega)) (by omega))
       clear h8 k8;go_wp2_with fail;refine(left_r v8 P mk (by omega) _ H8.out SP.out).mono ?_;rintro e w9 ⟨v9,rfl,h9,k9⟩;have H9:=ZZ h9;have E9:=ZZ (al E8.out k9);clear h9 k9;go_wp2_with fail;go_ret;refine⟨_,rfl,?_,E9.out⟩;rw [HGG.out,←HPG.out];exact H9.out
      ·have hne:((gk:Int) != 0)=true:=by simp;omega
       obtain⟨s,hs⟩:∃s,s=P % gk:=⟨_,rfl⟩;have hrem:(P:Int) % (gk:Int)=(s:Int):=by rw [hs];exact(Int.natCast_emod P gk).symm
       have hsg:s<gk:=by rw [hs];exact Nat.mod_lt _ hz
       have HS:=ZZ (show Nat.gcd gk s=Nat.gcd u v by rw [←HG2.out,hs,Nat.gcd_comm,←Nat.gcd_rec,Nat.gcd_comm]);have hws:IntKind.i64.wrap (s:Int)=(s:Int):=IntWalk.i64_in _ (by omega);clear hs;go_wp2_with fail
       go_quiet (fail)
       go_wp2_with fail
       go_roundg s
       case measure=>exact hsg
       case rel=>exact⟨gk,_,rfl,by first|rfl|rw [hrem],HS.out,by omega,by omega,drewN2 _ _ _⟩
end Go.Proofs.YtkoaakefgacokaaGreatDoor
