/- Sturm's chain as a list. Printed by gen_ye.py. Changes of sign in a chain; signs at a number and at the ends. Changes of sign in a chain: the walk; differences of counts. Differences of counts; Sturm's chain of a polynomial; Count. Printed by gen_yh.py. -/
import Derived.Test.YtaaoleakkaloeaaGreatDoorGYd
import Derived.Laws.StructEq
set_option linter.unusedVariables false
set_option maxRecDepth 100000
set_option maxHeartbeats 64000000
namespace Go.Proofs.YtaaoleakkaloeaaGreatDoor
open Go Go.RowKit Go.Shelf
set_option linter.unusedSimpArgs false
attribute [local go_sem] Oper.semAt_some
theorem wpListIn_appendG {F:Fence} {n₁:Nat} {P:Program} {S T:TypeId} {sz bytes:Nat} {z:Value} (E:ElT P S T sz bytes z) {C:Value→Prop} (hC0:∀c ∈ z.cells.toList,C c) {ops:Array Oper} {rest:List Oper} {o:Oper} {a:Act} {w:World} {Q:Exit→Act→World→Prop} (hgd:o.guard=none) (s x:Operand) (ho:o.op=.call { callee:=.builtin .append,args:=#[s,x],argTypes:=#[S,S] }) (B:Nat) (v:Value) (n:Nat) (xs:List Value) (hs:a.eval s=v) (hown:OwnG w B T sz C v n xs) (ad:Addr) (m c:Nat) (news:List Value) (hx:a.eval x=.slice (some ad) m c) (hl:news.length=m*sz) (hnews:∀j u,news[j]?=some u→w.cell? (ad.add j)=some u) (h1:∀u ∈ news,u.oneCell'=true) (hu:∀u ∈ news,C u) (hm:0<m) (hn:(n+m)*bytes≤140737488355328) (h63:n+m≤maxLen) (hB:B≤w.heap.size) (h:∀v' w',OwnG w' B T sz C v' (n+m) (xs ++ news)→w.grownBy w' v.ownBlock→wpListIn F n₁ P ops Q rest (a.put o.dst v') w'):wpListIn F n₁ P ops Q (o :: rest) a w:=by
 refine wpListIn_plain hgd fun K hK=>?_;obtain⟨v',w',hr,h2,h3⟩:=run_appendG E hC0 w B o.type v n xs hown ad m c news hl hnews h1 hu hm hn h63 hB;unfold Oper.wpIn;refine⟨by simp [Oper.about,ho,resolve,Target.leads,Sem.run_pure],?_⟩;rw [Oper.semAt_plain F _ _ (by rw [ho];intro c hc';cases hc')]
 simp [execOp,ho,resolve,invoke,builtin,hs,hx,hr,Result.andThen]
 exact hK _ _ (h v' w' h2 h3)
theorem PlL.cb {A B:World} {v:Value} {ls:List (List Rat)} (h:PlL A v ls) (k:Cb A B):PlL B v ls:=by
 obtain⟨X,cap,e,hc,hA⟩:=h;refine⟨X,cap,e,hc,?_⟩
 rcases hA with h|⟨b,o,e1,ht⟩
 ·exact .inl h
 ·exact .inr ⟨b,o,e1,fun i l hl=>by obtain⟨u,h1,h2⟩:=ht i l hl;exact⟨u,k _ _ _ h1,h2.cb k⟩⟩
theorem OwnG.other {W W':World} {B:Nat} {T:TypeId} {s:Nat} {C:Value→Prop} {v:Value} {n:Nat} {xs:List Value} (h:OwnG W B T s C v n xs) (hk:∀g,v.ownBlock=some g→W'.heap[g]?=W.heap[g]?):OwnG W' B T s C v n xs:=by
 obtain⟨h1,h2⟩:=h;refine⟨h1,?_⟩
 rcases h2 with h2|⟨g,cap,cur,e,hb,hh,hr⟩
 ·exact .inl h2
 ·exact .inr ⟨g,cap,cur,e,hb,(hk g (by rw [e];rfl)).trans hh,hr⟩
def OutC (go:Nat) (pre:List (Value × List Rat)) (W:World):Prop:=∃v,W.heap[go]?=some (.cells #[v] 77 (0,0))∧OwnV W (go+1) v pre.length (pre.map fun y=>y.1)
theorem OwnG.slice {W:World} {B:Nat} {T:TypeId} {s:Nat} {C:Value→Prop} {v:Value} {n:Nat} {xs:List Value} (h:OwnG W B T s C v n xs):∃A c,v=.slice A n c:=by
 rcases h.2 with ⟨e,h0⟩|⟨g,cap,cur,e,-⟩
 ·exact⟨none,0,by rw [h0];exact e⟩
 ·exact⟨_,_,e⟩
theorem chain_p (M:Nat) (hM0:0<M) (hM:M≤4294967296) (vp vq:Value) (p q:List Rat) (hlp:p.length≤100000) (hlq:q.length≤100000) (w:World) (hp:Pl w vp p) (hq:Pl w vq q) (hok:chainOk M p q=true):Calls Tryz.prog 37 #[vp,vq] w fun e w'=>∃v,e=.returned v∧PlL w' v (chainF p q)∧Ext w w':=by
 obtain⟨A,n,c,rfl,-⟩:=hp.form;obtain⟨A',n',c',rfl,-⟩:=hq.form
 have hcl:(chainF p q).length≤p.length+q.length+2:=by
  have:∀(k:Nat) (a b:List Rat),(chainU k a b).length≤k:=by
   intro k
   induction k with
   | zero=>intro a b;exact Nat.le_refl _
   | succ k ih=>
    intro a b;unfold chainU
    split
    ·exact Nat.zero_le _
    ·split
     ·simp
     ·rw [List.length_cons];exact Nat.succ_le_succ (ih _ _)
  exact this _ _ _
 have HCL:=ZZ (show (chainF p q).length≤300000 by omega);have HP:=ZZ hp;have HQ:=ZZ hq;have HLP:=ZZ hlp;have HLQ:=ZZ hlq;have HOK:=ZZ hok;have HM:=ZZ hM;have HM0:=ZZ hM0;clear hp hq hlp hlq hok hM hM0 hcl;refine(callsIn_wide (n:=4)).1 ?_;refine callsIn_of_wp_marks Tryz.func37 rfl trivial ?_ rfl
 simp only [Tryz.ntmps37,List.size_toArray,List.length_cons,List.length_nil,Nat.reduceAdd,Nat.reduceSub,Array.replicate_succ,Array.replicate_zero,List.push_toArray,List.append_toArray,List.nil_append,List.cons_append]
 have st:=sturm_c (.slice A n c) (.slice A' n' c') ⟨_,_,_,rfl⟩ ⟨_,_,_,rfl⟩
 gi_wp2_with (refine⟨trivial,?_⟩;gi_at_call 81;refine(callsIn_wide.2 (st _)).mono ?_;rintro e w' ⟨rfl,rfl⟩)
 clear st;obtain⟨go,hgo⟩:∃g,w.heap.size=g:=⟨_,rfl⟩;have sz:∀(W:World) (o:Obj),(W.alloc o).heap.size=W.heap.size+1:=fun W o=>World.size_alloc W o;obtain⟨W1,hW1⟩:∃W,W=w.alloc (.cells #[.slice none 0 0] 77):=⟨_,rfl⟩;have r1:W1.heap[go]?=some (.cells #[.slice none 0 0] 77 (0,0)):=by rw [hW1,←hgo];exact heap_alloc_new _ _
 have x1:Ext w W1:=by rw [hW1];exact ac _ _
 have s1:w.heap.size+1=W1.heap.size:=by rw [hW1];exact(sz _ _).symm
 rw [←hW1,hgo]
 simp only [←hgo,s1]
 have hgs:go<W1.heap.size:=lt_of_block r1;rw [hgo];clear hW1;obtain⟨gp,hgp⟩:∃g,W1.heap.size=g:=⟨_,rfl⟩;obtain⟨gq,hgq⟩:∃g,W1.heap.size+1=g:=⟨_,rfl⟩;obtain⟨gf,hgf⟩:∃g,W1.heap.size+1+1=g:=⟨_,rfl⟩;obtain⟨W4,hW4⟩:∃W,W=((W1.alloc (.cells #[.slice A n c] 25)).alloc (.cells #[.slice A' n' c'] 25)).alloc (.cells #[.func (.func 117) #[] #[]] 29):=⟨_,rfl⟩;have x4:Ext W1 W4:=by rw [hW4];exact al (ac _ _) (al (ac _ _) (ac _ _))
 have rp:W4.heap[gp]?=some (.cells #[.slice A n c] 25 (0,0)):=by
  have h:=(al (ac (W1.alloc (.cells #[.slice A n c] 25)) (.cells #[.slice A' n' c'] 25)) (ac _ (.cells #[.func (.func 117) #[] #[]] 29))).block W1.heap.size (by rw [sz];omega:W1.heap.size<(W1.alloc (.cells #[.slice A n c] 25)).heap.size);rw [hW4,←hgp];exact h.trans (heap_alloc_new _ _)
 have rq:W4.heap[gq]?=some (.cells #[.slice A' n' c'] 25 (0,0)):=by
  have h:=(ac ((W1.alloc (.cells #[.slice A n c] 25)).alloc (.cells #[.slice A' n' c'] 25)) (.cells #[.func (.func 117) #[] #[]] 29)).block (W1.heap.size+1) (by rw [sz,sz];omega);rw [hW4,←hgq,h,←sz W1 (.cells #[.slice A n c] 25)];exact heap_alloc_new _ _
 have rf:W4.heap[gf]?=some (.cells #[.func (.func 117) #[] #[]] 29 (0,0)):=by
  rw [hW4,←hgf,←sz W1 (.cells #[.slice A n c] 25),←sz (W1.alloc (.cells #[.slice A n c] 25)) (.cells #[.slice A' n' c'] 25)];exact heap_alloc_new _ _
 rw [←hW4,hgf,hgq,hgp];clear hgp hgq hgf hW4 sz s1;have ro:=(x4.block _ hgs).trans r1;have x14:=al x1 x4;have HP4:=ZZ (HP.out.mono x14);have HQ4:=ZZ (HQ.out.mono x14);have d1:w.heap.size≤go:=Nat.le_of_eq hgo;have d5:w.heap.size≤W4.heap.size:=x14.size;have d6:go<W4.heap.size:=lt_of_block ro;clear r1 x1 hgs x4;refine wpIn_rangeR (α:=Value × List Rat) (gf:=118) (lb:=#[.pointer (some ⟨gf,0,none⟩),.pointer (some ⟨gp,0,none⟩),.pointer (some ⟨gq,0,none⟩)]) rfl (enters_of Tryz.func118 (by kernel_rfl) rfl) (encs:=encC) (R:=fun x W=>Pl W x.1 x.2) (Z:=ZS) (S:=fun xs W=>xs.map (fun x=>x.2)=chainF p q∧∀x ∈ xs,Pl W x.1 x.2) (N:=(chainF p q).length) (w0:=W4) (fun l J W hW hJ hY h0=>sturm_in M HM0.out HM.out _ (by decide) l gf gp gq _ _ p q HLP.out HLQ.out HOK.out J hJ hY W (HP4.out.mono hW) (HQ4.out.mono hW) (ao hW (by rw [cell_of_row _ _ _ _ _ _ rf];rfl)) (ao hW (by rw [cell_of_row _ _ _ _ _ _ rp];rfl)) (ao hW (by rw [cell_of_row _ _ _ _ _ _ rq];rfl)) h0) (af _) (fun _=>rfl) (fun pre W=>Hid (Ext w W∧OutC go pre W))
  (fun pre A B row hs hg hr=>by
   obtain⟨h1,v,h2,h3⟩:=hs.out
   exact ZZ ⟨ownz_ext h1 d5 hg hr,v,ownz_block hg hr h2,h3.other (fun g hgv=>by
    rcases h3.2 with ⟨e,-⟩|⟨g',cap,cur,e,-,hh,-⟩
    ·rw [e] at hgv;cases hgv
    ·rw [e] at hgv
     obtain rfl:g'=g:=Option.some.inj hgv;exact(ownz_block hg hr hh).trans hh.symm)⟩)
  (ZZ ⟨x14,_,ro,OwnG.nil _ _ _ _ _⟩)
  (fun y a' W=>isSl y.1∧a'={ tmps:=#[.slice A n c,.slice A' n' c',undef,undef,.slice none 0 0,.pointer (some ⟨go,0,none⟩),y.1,.slice A n c,.slice A' n' c',.func (.func 118) #[] #[.pointer (some ⟨gf,0,none⟩),.pointer (some ⟨gp,0,none⟩),.pointer (some ⟨gq,0,none⟩)],y.1,undef,undef,undef,undef,undef],defers:=[] })
  (fun y a' u A B row hs hg hr=>hs)
  (fun xs A B row hs hg hr=>⟨hs.1,fun x hx=>(hs.2 x hx).cb (ownz_cb hg hr)⟩) ?assign ?body ?done
 case assign=>
  rintro l pre ⟨v',q'⟩ W K hi hr hK;obtain⟨A5,n5,c5,e5,-⟩:=Pl.form hr;obtain rfl:v'=.slice A5 n5 c5:=e5;have hK2:=hK { tmps:=#[.slice A n c,.slice A' n' c',undef,undef,.slice none 0 0,.pointer (some ⟨go,0,none⟩),.slice A5 n5 c5,.slice A n c,.slice A' n' c',.func (.func 118) #[] #[.pointer (some ⟨gf,0,none⟩),.pointer (some ⟨gp,0,none⟩),.pointer (some ⟨gq,0,none⟩)],.slice A5 n5 c5,undef,undef,undef,undef,undef],defers:=[] } W (af _) ⟨⟨_,_,_,rfl⟩,rfl⟩;clear hK hr hi
  simp only [encC]
  gi_wp2
  exact hK2
 case body=>
  rintro l pre ⟨v',q'⟩ a' W hI ⟨⟨A5,n5,c5,e5⟩,rfl⟩ hlen;obtain rfl:v'=.slice A5 n5 c5:=e5;obtain⟨hE,v,hO,hV⟩:=hI.out;obtain⟨Av,cv,ev⟩:=hV.slice;subst ev;have HEW:=ZZ hE;have HOR:=ZZ hO;have x1:=ac W (.cells #[.slice A5 n5 c5] 25);have HV1:=ZZ (hV.mono x1);have HX1:=ZZ x1;have C1:=ZZ (cell1_new W (.slice A5 n5 c5) 25);have HLN:=ZZ (show pre.length<300000 from Nat.lt_of_lt_of_le hlen HCL.out);have r0:W.cell? ⟨go,0,none⟩=some (.slice Av pre.length cv):=by rw [cell_of_row _ _ _ _ _ _ hO];rfl
  have HSZ:=ZZ (show go+1≤(W.alloc (.cells #[.slice A5 n5 c5] 25)).heap.size from by have h1:=lt_of_block hO;have h2:=x1.size;omega);obtain⟨np,hnp⟩:∃np,pre.length=np:=⟨_,rfl⟩;rw [hnp] at HV1 r0 HOR HLN;have HNP:=ZZ hnp;clear hE hO hV hI hlen x1 hnp
  gi_wp2_with (gi_at_builtin;refine wpListIn_appendG elPl zero_sl rfl _ _ rfl (go+1) (.slice Av np cv) np (pre.map fun (y:Value × List Rat)=>y.1) rfl HV1.out ⟨W.heap.size,0,none⟩ 1 _ [.slice A5 n5 c5] rfl rfl C1.out (by intro u hu;rw [List.mem_singleton.1 hu];rfl) (by intro u hu;rw [List.mem_singleton.1 hu];exact⟨_,_,_,rfl⟩) (by decide) (by have h1:=HLN.out;omega) (by have h1:=HLN.out;unfold maxLen;omega) HSZ.out ?_;intro v8 w8 hown8 hgrow;obtain⟨A8,c8,e8⟩:=hown8.slice;subst e8;have HG8:=ZZ hgrow;have HO8:=ZZ hown8;have ro8:=ZZ (show w8.heap[go]?=some (.cells #[.slice Av np cv] 77 (0,0)) from (hgrow.block go (by have h1:=HSZ.out;omega) (fun e=>by have h1:=(HV1.out.lt go e.symm).1;omega)).trans ((HX1.out.block _ (lt_of_block HOR.out)).trans HOR.out));have r8:w8.cell? ⟨go,0,none⟩=some (.slice Av np cv):=(by rw [cell_of_row _ _ _ _ _ _ ro8.out];rfl);have f8:=frozen_row ro8.out 0;clear hgrow hown8)
  gi_wp2
  have hOB:∀g,(Value.slice Av np cv).ownBlock=some g→g≠go:=fun g hg e=>by have h1:=(HV1.out.lt g hg).1;omega
  have hOB8:∀g,(Value.slice A8 (np+1) c8).ownBlock=some g→g≠go:=fun g hg e=>by have h1:=(HO8.out.lt g hg).1;omega
  have e1:Ext w (W.alloc (.cells #[.slice A5 n5 c5] 25)):=al HEW.out HX1.out;have e8:Ext w w8:=Below.grown e1 HG8.out e1.size (fun k hk=>by have h1:=(HV1.out.lt k hk).1;omega);refine⟨?_,?_,?_⟩
  ·refine⟨?_,fun k o _ hk ho=>?_⟩
   ·simp [World.setCell]
    exact Nat.le_trans HX1.out.size HG8.out.size
   ·have hlt:=(Array.getElem?_eq_some_iff.1 hk).1
    have hk1:=(HX1.out.block _ hlt).trans hk;have hne:k≠go:=fun e=>by subst e;rw [HOR.out] at hk;cases hk;cases ho
    rw [Below.heap_setCell _ _ _ _ hne];refine(HG8.out.block k (Array.getElem?_eq_some_iff.1 hk1).1 (fun e=>?_)).trans hk1
    rcases HV1.out.2 with ⟨e2,-⟩|⟨g',cap,cur,e2,-,hh,-⟩
    ·rw [e2] at e;cases e
    ·rw [e2] at e
     obtain rfl:g'=k:=(Option.some.inj e).symm;rw [hh] at hk1;cases hk1;cases ho
  ·refine⟨?_,fun k o hk ho hz=>?_⟩
   ·simp [World.setCell]
    exact Nat.le_trans HX1.out.size HG8.out.size
   ·have hlt:=(Array.getElem?_eq_some_iff.1 hk).1
    have hk1:=(HX1.out.block _ hlt).trans hk;obtain⟨cs,T1,f1,rfl,cc,hcc,hns⟩:=hz
    have hne:k≠go:=fun e=>by
     subst e;rw [HOR.out] at hk
     cases hk
     rw [show (#[Value.slice Av np cv]:Array Value).toList=[.slice Av np cv] from rfl,List.mem_singleton] at hcc;exact hns (by rw [hcc];exact⟨_,_,_,rfl⟩)
    rw [Below.heap_setCell _ _ _ _ hne];refine(HG8.out.block k (Array.getElem?_eq_some_iff.1 hk1).1 (fun e=>?_)).trans hk1
    rcases HV1.out.2 with ⟨e2,-⟩|⟨g',cap,cur,e2,-,hh,-,-,-,-,hall⟩
    ·rw [e2] at e;cases e
    ·rw [e2] at e
     obtain rfl:g'=k:=(Option.some.inj e).symm;rw [hh] at hk1;cases hk1;exact hns (hall _ hcc)
  ·refine ZZ ⟨e8.setCell (p:=⟨go,0,none⟩) d1 _,.slice A8 (np+1) c8,?_,?_⟩
   ·have:=row_set ro8.out (j:=0) (.slice A8 (np+1) c8)
    simpa using this
   ·rw [List.length_append,List.length_singleton,List.map_append,List.map_singleton,HNP.out]
    exact HO8.out.other (fun g hg=>Below.heap_setCell _ _ _ _ (hOB8 g hg))
 case done=>
  rintro D xs W hD hs hI hK;obtain⟨hE,v,hO,hV⟩:=hI.out;obtain⟨Av,cv,ev⟩:=hV.slice;subst ev;obtain⟨np,hnp⟩:∃np,xs.length=np:=⟨_,rfl⟩
  have hL:OwnL W (go+1) (.slice Av xs.length cv) (chainF p q):=by
   refine⟨_,by rw [←hs.1,List.length_map];exact hV,fun i l' hl=>?_⟩;rw [←hs.1,List.getElem?_map] at hl;obtain⟨x,hx,rfl⟩:=Option.map_eq_some_iff.1 hl;exact⟨x.1,by rw [List.getElem?_map,hx];rfl,hs.2 x (List.mem_of_getElem? hx)⟩
  rw [hnp] at hL hO;have HEW:=ZZ hE;have HLW:=ZZ hL.pll;have HKD:=ZZ hK;have r0:W.cell? ⟨go,0,none⟩=some (.slice Av np cv):=by rw [cell_of_row _ _ _ _ _ _ hO];rfl
  clear hI hs hE hO hV hK hL hnp ro rf rp rq
  gi_wp2
  refine⟨by simp,.inl ⟨_,_,rfl,run_takeDeferred HKD.out,?_⟩⟩;exact⟨_,results_tmp rfl _ _ _,_,rfl,HLW.out.cb (ownz_cb (grownBy_putObj' _ _ _) (fun r e=>by cases e;exact⟨hD,_,HKD.out,rfl⟩)),ownz_ext HEW.out d5 (grownBy_putObj' _ _ _) (fun r e=>by cases e;exact⟨hD,_,HKD.out,rfl⟩)⟩
end Go.Proofs.YtaaoleakkaloeaaGreatDoor
set_option linter.unusedVariables false
set_option maxRecDepth 100000
set_option maxHeartbeats 64000000
namespace Go.Proofs.YtaaoleakkaloeaaGreatDoor
open Go Go.RowKit
set_option linter.unusedSimpArgs false
theorem eqIn_arr {P:Program} (n:Nat) (t e:TypeId) (xs ys:Array Value) (w:World) (u:P.underlying t=some (.array 2 e)) (z:∀w,(sizeOf e).run P w=.ok 1 w) (x0 x1 y0 y1:Value) (b0 b1:Bool) (p0:(part e xs 0).run P w=.ok x0 w) (p1:(part e xs 1).run P w=.ok x1 w) (q0:(part e ys 0).run P w=.ok y0 w) (q1:(part e ys 1).run P w=.ok y1 w) (h0:(Op.equalIn n e x0 y0).run P w=.ok b0 w) (h1:(Op.equalIn n e x1 y1).run P w=.ok b1 w):(Op.equalIn (n+1) t (.agg xs) (.agg ys)).run P w=.ok (b0 && b1) w:=by
 simp only [Op.equalIn,Sem.run_bind,run_underlying u,Result.andThen_ok,z]
 rw [Std.Legacy.Range.forIn_eq_forIn_range']
 cases b0 <;> cases b1 <;> simp [List.range',Std.Legacy.Range.size,p0,p1,q0,q1,h0,h1,Result.andThen_ok,Sem.run_bind]
theorem eq_pair (a b c d:Int) (w:World):(Op.equalIn 10000 122 (.agg #[.int .i64 a,.int .i64 b]) (.agg #[.int .i64 c,.int .i64 d])).run Tryz.prog w=.ok (a == c && b == d) w:=by
 have u3:=Tryz.underlying3;have part0:∀(x y:Value),(part 3 #[x,y] 0).run Tryz.prog w=.ok x w:=by intro x y;go_simp
 have part1:∀(x y:Value),(part 3 #[x,y] 1).run Tryz.prog w=.ok y w:=by intro x y;go_simp
 exact eqIn_arr 9999 122 3 _ _ w Tryz.underlying122 Tryz.sizeOf3 _ _ _ _ _ _ (part0 _ _) (part1 _ _) (part0 _ _) (part1 _ _) (run_equalIn_int w 9998 _ .i64 .i64 _ _ u3) (run_equalIn_int w 9998 _ .i64 .i64 _ _ u3)
def SgnV (w:World) (fv:Value) (sg:List Rat→Int) (Pre:List Rat→Prop):Prop:=∃g lb,fv=.func (.func g) #[] lb∧(∀args W,(callFunc g args).run Tryz.prog W=.ok (.enter g args) W)∧∀W,Ext w W→∀v l,Pl W v l→Pre l→Calls Tryz.prog g (#[v] ++ lb) W fun e W'=>e=.returned (.int .i64 (sg l))∧Ext W W'
def flipsU:Int→List Int→Int
 | _,[]=>0
 | last,s :: l=>if s=0 then flipsU last l else (if (last=1∧s = -1)∨(last = -1∧s=1) then 1 else 0)+flipsU s l
def flipsF (c:List (List Rat)) (sg:List Rat→Int):Int:=flipsU 0 (c.map sg)
theorem flips_bound (last:Int) (l:List Int):0≤flipsU last l∧flipsU last l≤l.length:=by
 induction l generalizing last with
 | nil=>exact⟨Int.le_refl _,Int.le_refl _⟩
 | cons s l ih=>
  unfold flipsU;have h1:=ih last;have h2:=ih s;rw [List.length_cons]
  split
  ·omega
  ·split <;> omega
theorem at_c (vx:Value) (x:Rat) (w:World) (hx:Nm w vx x):Calls Tryz.prog 86 #[vx] w fun e w'=>e=.returned (.func (.func 120) #[] #[.pointer (some ⟨w.heap.size,0,none⟩)])∧w'=w.alloc (.cells vx.cells 36):=by
 obtain⟨s1,A1,k1,ca1,B1,l1,cb1,rfl⟩:=hx.form2;clear hx
 go_enter Tryz.func86,Tryz.ntmps86
 go_wp2_with fail;go_ret
 exact⟨rfl,rfl⟩
def atF (x:Rat) (l:List Rat):Int:=(evR l x).num.sign
theorem at1_p (M:Nat) (hM:0<M) (x:Rat) (bx:Bq M x) (B:Nat) (s1:Bool) (A1:Option Addr) (k1 ca1:Nat) (B1:Option Addr) (l1 cb1:Nat) (v:Value) (l:List Rat) (hl:l.length≤100000) (hK:l.length*(M+M+1)+1+M≤1099511627776) (hb:∀c ∈ l,Bq M c) (w:World) (hr:w.heap[B]?=some (.cells #[.bool s1,.slice A1 k1 ca1,.slice B1 l1 cb1] 36 (0,0))) (hx:Nm w (.agg #[.bool s1,.slice A1 k1 ca1,.slice B1 l1 cb1]) x) (hp:Pl w v l):Calls Tryz.prog 120 #[v,.pointer (some ⟨B,0,none⟩)] w fun e w'=>e=.returned (.int .i64 (atF x l))∧Ext w w':=by
 have HX:=ZZ hx;have HP:=ZZ hp;obtain⟨c,hc⟩:∃c,atF x l=c:=⟨_,rfl⟩;have HCC:=ZZ (show (evR l x).num.sign=c from hc);rw [hc];obtain⟨c0,c1,c2,-⟩:=aj hr;have HE:=ZZ (eval_p M hM v _ l x hl hK w hp hx hb bx);obtain⟨A,n,cp,rfl,-⟩:=hp.form;clear hx hp hr hc hl hK hb
 go_enter Tryz.func120,Tryz.ntmps120
 go_wp2_with fail;refine HE.out.mono ?_
 rintro e w3 ⟨v3,rfl,h3,k3⟩;have H3:=ZZ h3;have K3:=ZZ k3;clear h3 k3 HE;go_wp2_with fail;refine(sign_q' _ (evR l x) _ c HCC.out H3.out).mono ?_;rintro e w4 ⟨rfl,k4⟩;have K4:=ZZ (al K3.out k4);clear k4;go_wp2_with fail;go_ret;exact⟨rfl,K4.out⟩
theorem endsV_c (b:Bool) (w:World):Calls Tryz.prog 39 #[.bool b] w fun e w'=>e=.returned (.func (.func 82) #[] #[.pointer (some ⟨w.heap.size,0,none⟩)])∧w'=w.alloc (.cells #[.bool b] 4):=by
 go_enter Tryz.func39,Tryz.ntmps39
 go_wp2_with fail;go_ret
 exact⟨rfl,rfl⟩
def endsF (minus:Bool) (l:List Rat):Int:=if minus && decide (l.length % 2=0) then -(topF l).num.sign else (topF l).num.sign
theorem ends1_p (b:Bool) (B:Nat) (v:Value) (l:List Rat) (hl:l.length≤100000) (hne:l≠[]) (w:World) (hr:w.heap[B]?=some (.cells #[.bool b] 4 (0,0))) (hp:Pl w v l):Calls Tryz.prog 82 #[v,.pointer (some ⟨B,0,none⟩)] w fun e w'=>e=.returned (.int .i64 (endsF b l))∧Ext w w':=by
 obtain⟨A,n1,cp,rfl,hn⟩:=hp.form;obtain⟨n,rfl⟩:∃n,n1=n+1:=⟨n1 - 1,by have:=List.length_pos_iff.2 hne;omega⟩;have HP:=ZZ hp;have HL:=ZZ hl;have HN:=ZZ hn;have HR:=ZZ hr;obtain⟨c,hc⟩:∃c,(topF l).num.sign=c:=⟨_,rfl⟩;have HCC:=ZZ hc;have hs:c = -1∨c=0∨c=1:=by rw [←hc];rcases Int.sign_trichotomy (topF l).num with h|h|h <;> omega
 have HE:=ZZ (show endsF b l=if b && decide ((n+1) % 2=0) then -c else c by unfold endsF;rw [hn,hc]);have q3:IntKind.i64.wrap (-c) = -c:=IntWalk.i64_in _ (by omega);clear hp hl hn hr hc hne hs
 go_enter Tryz.func82,Tryz.ntmps82
 go_wp2_with fail;refine(top_q _ l (by have:=HL.out;omega) n (topF l) HN.out (top_get HN.out) _ (by have h:=HP.out;rw [HN.out.symm] at h ⊢;exact h)).mono ?_
 rintro e w3 ⟨v3,rfl,h3,k3⟩;have H3:=ZZ h3;have K3:=ZZ k3;clear h3 k3;go_wp2_with fail;refine(sign_q' _ (topF l) _ c HCC.out H3.out).mono ?_;rintro e w4 ⟨rfl,k4⟩;have K4:=ZZ (al K3.out k4);have c0:w4.cell? ⟨B,0,none⟩=some (.bool b):=by rw [cell_of_row _ _ _ _ _ _ ((K4.out.block _ (lt_of_block HR.out)).trans HR.out)];rfl
 clear k4
 cases b with
 | false=>
  go_wp2_with fail;go_ret
  exact⟨by rw [HE.out];rfl,K4.out⟩
 | true=>
  rcases Nat.mod_two_eq_zero_or_one (n+1) with h2|h2
  ·have z1:((n:Int)+1) % 2=0:=by omega
   have z2:((n:Int)+1).tmod 2=0:=by rw [Int.tmod_eq_emod_of_nonneg (by omega)];omega
   have HM:=ZZ h2;clear h2;go_wp2_with fail;go_ret;exact⟨by rw [HE.out,HM.out];rfl,K4.out⟩
  ·have z1:((n:Int)+1) % 2=1:=by omega
   have z2:((n:Int)+1).tmod 2=1:=by rw [Int.tmod_eq_emod_of_nonneg (by omega)];omega
   have HM:=ZZ h2;clear h2;go_wp2_with fail;go_ret;exact⟨by rw [HE.out,HM.out];rfl,K4.out⟩
end Go.Proofs.YtaaoleakkaloeaaGreatDoor
set_option linter.unusedVariables false
set_option maxRecDepth 100000
set_option maxHeartbeats 64000000
namespace Go.Proofs.YtaaoleakkaloeaaGreatDoor
open Go Go.RowKit
set_option linter.unusedSimpArgs false
theorem flips_p (v fv:Value) (c:List (List Rat)) (sg:List Rat→Int) (Pre:List Rat→Prop) (hn:c.length≤1000000) (hPre:∀l ∈ c,Pre l) (w:World) (h:PlL w v c) (hf:SgnV w fv sg Pre) (z:Int) (hz:flipsF c sg=z):Calls Tryz.prog 38 #[v,fv] w fun e w'=>e=.returned (.int .i64 z)∧Ext w w':=by
 obtain⟨A,cap,rfl,-,hA⟩:=h;obtain⟨gf,lb,rfl,hen,hcl⟩:=hf;obtain⟨n,hm⟩:∃n,c.length=n:=⟨_,rfl⟩;rw [hm];have HM:=ZZ hm;have HN:=ZZ hn;have HA:=ZZ hA;have HPR:=ZZ hPre;have HCL:=ZZ hcl;have HZ:=ZZ hz;clear hm hn hA hPre hcl hz
 go_enter Tryz.func38,Tryz.ntmps38
 go_wp2_with fail
 go_loopg [13,5,6] n (fun k i cn la wr=>∃(j:Nat) (a b:Int),Hid (j+k=n)∧i=.int .i64 (j:Int)∧cn=.int .i64 a∧la=.int .i64 b∧Hid (a+flipsU b ((c.drop j).map sg)=z)∧Hid (0≤a∧a≤j)∧Hid (Ext w wr))
 case atStart=>exact⟨0,0,0,ZZ (Nat.zero_add _),rfl,rfl,rfl,ZZ (by rw [←HZ.out];unfold flipsF;rw [Int.zero_add];rfl),ZZ ⟨Int.le_refl _,Int.le_refl _⟩,ZZ (af _)⟩
 case round=>
  obtain⟨j,a,b,HJ,rfl,rfl,rfl,HU,HB,HE⟩:=hrel;rename World=>WR
  rcases Nat.eq_zero_or_pos gk with hz|hz
  ·subst hz
   obtain rfl:j=n:=HJ.out;have q1:decide ((j:Int)<(j:Int))=false:=decide_eq_false (Int.lt_irrefl _)
   have HZA:=ZZ (show a=z from by
    have h:=HU.out;rw [List.drop_eq_nil_of_le (Nat.le_of_eq HM.out)] at h;have h2:a+0=z:=h
    omega)
   go_wp2_with fail;go_ret
   exact⟨by rw [←HZA.out];rfl,HE.out⟩
  ·have hjn:j<n:=by have:=HJ.out;omega
   have hjl:j<c.length:=by rw [HM.out];exact hjn
   have q1:decide ((j:Int)<(n:Int))=true:=decide_eq_true (by omega);have q1':decide (j<n)=true:=decide_eq_true hjn;have q4:(j:Int)<(n:Int):=by omega
   have q5:(0:Int)≤(j:Int):=by omega
   rcases HA.out with ⟨-,h5⟩|⟨bb,o,rfl,ht⟩
   ·rw [h5] at hjl;simp at hjl
   obtain⟨l,hl⟩:∃l,c[j]?=some l:=⟨c[j]'hjl,List.getElem?_eq_getElem _⟩;obtain⟨u,c0,hu⟩:=ht j l hl;obtain⟨Au,ku,cu,eu,-⟩:=hu.form;subst eu
   replace c0:=ao HE.out c0
   obtain⟨s,hs⟩:∃s,sg l=s:=⟨_,rfl⟩
   have hd:c.drop j=l :: c.drop (j+1):=by
    obtain⟨hj2,e⟩:=List.getElem?_eq_some_iff.1 hl;rw [List.drop_eq_getElem_cons hj2,e]
   have HU2:=ZZ (show a+flipsU b (s :: (c.drop (j+1)).map sg)=z from by have h:=HU.out;rw [hd,List.map_cons,hs] at h;exact h);have HCA:=ZZ (HCL.out WR HE.out _ l (hu.mono HE.out) (HPR.out l (List.mem_of_getElem? hl)));rw [hs] at HCA;have HZ2:=ZZ hz;have HJN:=ZZ hjn;clear hu hl hz hjl ht hd hs hjn;go_wp2_with fail;refine HCA.out.mono ?_;rintro e w5 ⟨rfl,k5⟩;have K5:=ZZ (al HE.out k5);clear k5 c0 HCA
   by_cases hs0:s=0
   ·subst hs0
    have z0:((0:Int) == 0)=true:=rfl;go_wp2_with fail
    go_roundg (gk - 1)
    case measure=>have:=HZ2.out;omega
    case rel=>exact⟨j+1,a,b,ZZ (by have:=HJ.out;have:=HZ2.out;omega),by have h1:=HN.out;have h2:=HM.out;have h3:=HJN.out;rw [IntWalk.wrap64_in _ ⟨by omega,by omega⟩];rfl,rfl,rfl,ZZ (by have h:=HU2.out;unfold flipsU at h;rw [if_pos rfl] at h;exact h),ZZ (by have h:=HB.out;omega),K5⟩
   ·have z0:(s == 0)=false:=beq_eq_false_iff_ne.2 hs0
    obtain⟨t1,ht1⟩:∃t,(b == 1 && s == -1)=t:=⟨_,rfl⟩;obtain⟨t2,ht2⟩:∃t,(b == -1 && s == 1)=t:=⟨_,rfl⟩;have e1:∀W,(Op.equalIn 10000 122 (.agg #[.int .i64 b,.int .i64 s]) (.agg #[.int .i64 1,.int .i64 (-1)])).run Tryz.prog W=.ok t1 W:=fun W=>by rw [←ht1];exact eq_pair b s 1 (-1) W
    have e2:∀W,(Op.equalIn 10000 122 (.agg #[.int .i64 b,.int .i64 s]) (.agg #[.int .i64 (-1),.int .i64 1])).run Tryz.prog W=.ok t2 W:=fun W=>by rw [←ht2];exact eq_pair b s (-1) 1 W
    have HST:=ZZ (show a+((if t1 || t2 then 1 else 0)+flipsU s ((c.drop (j+1)).map sg))=z from by
     have h:=HU2.out;unfold flipsU at h;rw [if_neg hs0] at h
     have key:(if t1 || t2 then (1:Int) else 0)=if (b=1∧s = -1)∨(b = -1∧s=1) then 1 else 0:=by
      rw [←ht1,←ht2]
      by_cases h1:b=1∧s = -1
      ·rw [if_pos (show (b=1∧s = -1)∨(b = -1∧s=1) from .inl h1),h1.1,h1.2];rfl
      ·by_cases h2:b = -1∧s=1
       ·rw [if_pos (show (b=1∧s = -1)∨(b = -1∧s=1) from .inr h2),h2.1,h2.2];rfl
       ·rw [if_neg (show ¬((b=1∧s = -1)∨(b = -1∧s=1)) from fun h=>h.elim h1 h2)]
        have f1:(b == 1 && s == -1)=false:=by
         rw [Bool.and_eq_false_iff,beq_eq_false_iff_ne,beq_eq_false_iff_ne]
         by_cases h:b=1
         ·exact .inr (fun e=>h1 ⟨h,e⟩)
         ·exact .inl h
        have f2:(b == -1 && s == 1)=false:=by
         rw [Bool.and_eq_false_iff,beq_eq_false_iff_ne,beq_eq_false_iff_ne]
         by_cases h:b = -1
         ·exact .inr (fun e=>h2 ⟨h,e⟩)
         ·exact .inl h
        rw [f1,f2];rfl
     rw [key];exact h)
    have hw:IntKind.i64.wrap (a+1)=a+1:=by have h:=HB.out;have h1:=HN.out;have h2:=HM.out;have h3:=HJN.out;exact IntWalk.i64_in _ (by omega)
    clear ht1 ht2 hs0
    cases t1 with
    | true=>
     go_wp2_with fail
     go_roundg (gk - 1)
     case measure=>have:=HZ2.out;omega
     case rel=>exact⟨j+1,a+1,s,ZZ (by have:=HJ.out;have:=HZ2.out;omega),by have h1:=HN.out;have h2:=HM.out;have h3:=HJN.out;rw [IntWalk.wrap64_in _ ⟨by omega,by omega⟩];rfl,rfl,rfl,ZZ (by have h:=HST.out;rw [Bool.true_or,if_pos rfl] at h;omega),ZZ (by have h:=HB.out;omega),ZZ (al K5.out (ac _ _))⟩
    | false=>
     cases t2 with
     | true=>
      go_wp2_with fail
      go_roundg (gk - 1)
      case measure=>have:=HZ2.out;omega
      case rel=>exact⟨j+1,a+1,s,ZZ (by have:=HJ.out;have:=HZ2.out;omega),by have h1:=HN.out;have h2:=HM.out;have h3:=HJN.out;rw [IntWalk.wrap64_in _ ⟨by omega,by omega⟩];rfl,rfl,rfl,ZZ (by have h:=HST.out;rw [Bool.or_true,if_pos rfl] at h;omega),ZZ (by have h:=HB.out;omega),ZZ (al K5.out (ac _ _))⟩
     | false=>
      go_wp2_with fail
      go_roundg (gk - 1)
      case measure=>have:=HZ2.out;omega
      case rel=>exact⟨j+1,a,s,ZZ (by have:=HJ.out;have:=HZ2.out;omega),by have h1:=HN.out;have h2:=HM.out;have h3:=HJN.out;rw [IntWalk.wrap64_in _ ⟨by omega,by omega⟩];rfl,rfl,rfl,ZZ (by have h:=HST.out;rw [Bool.or_false,if_neg (by decide)] at h;omega),ZZ (by have h:=HB.out;omega),ZZ (al K5.out (ac _ _))⟩
end Go.Proofs.YtaaoleakkaloeaaGreatDoor
set_option linter.unusedVariables false
set_option maxRecDepth 100000
set_option maxHeartbeats 64000000
namespace Go.Proofs.YtaaoleakkaloeaaGreatDoor
open Go Go.RowKit
set_option linter.unusedSimpArgs false
def PreM (M:Nat) (l:List Rat):Prop:=l.length≤100∧∀x ∈ l,Bq M x
def cB (M:Nat) (c:List (List Rat)):Bool:=c.all fun l=>smB M l && decide (l.length≤100)
theorem cB_of {M:Nat} {c:List (List Rat)} (h:cB M c=true):∀l ∈ c,PreM M l:=fun l hl=>by
 have h1:=List.all_eq_true.1 h l hl;rw [Bool.and_eq_true] at h1;exact⟨of_decide_eq_true h1.2,sm_of h1.1⟩
theorem k_of {M n:Nat} (hM:M≤4294967296) (hn:n≤100):n*(M+M+1)+1+M≤1099511627776:=by
 have h1:n*(M+M+1)≤100*(M+M+1):=Nat.mul_le_mul_right _ hn;omega
theorem sgn_at (M:Nat) (hM0:0<M) (hM:M≤4294967296) (x:Rat) (bx:Bq M x) {w:World} {s1:Bool} {A1:Option Addr} {k1 ca1:Nat} {B1:Option Addr} {l1 cb1:Nat} (hx:Nm w (.agg #[.bool s1,.slice A1 k1 ca1,.slice B1 l1 cb1]) x):SgnV (w.alloc (.cells #[.bool s1,.slice A1 k1 ca1,.slice B1 l1 cb1] 36)) (.func (.func 120) #[] #[.pointer (some ⟨w.heap.size,0,none⟩)]) (atF x) (PreM M):=
 ⟨120,#[.pointer (some ⟨w.heap.size,0,none⟩)],rfl,enters_of Tryz.func120 (by kernel_rfl) rfl,fun W k v l hp hl=>
  at1_p M hM0 x bx w.heap.size s1 A1 k1 ca1 B1 l1 cb1 v l (by have:=hl.1;omega) (k_of hM hl.1) hl.2 W ((k.block _ (lt_of_block (heap_alloc_new w _))).trans (heap_alloc_new w _)) (hx.mono (al (ac _ _) k)) hp⟩
def betweenF (c:List (List Rat)) (lo hi:Rat):Int:=flipsF c (atF lo) - flipsF c (atF hi)
theorem between_p (M:Nat) (hM0:0<M) (hM:M≤4294967296) (v vl vh:Value) (c:List (List Rat)) (lo hi:Rat) (hn:c.length≤1000000) (hc:cB M c=true) (w:World) (h:PlL w v c) (hlo:Nm w vl lo) (hhi:Nm w vh hi) (blo:Bq M lo) (bhi:Bq M hi):Calls Tryz.prog 43 #[v,vl,vh] w fun e w'=>e=.returned (.int .i64 (betweenF c lo hi))∧Ext w w':=by
 obtain⟨s1,A1,k1,ca1,B1,l1,cb1,rfl⟩:=hlo.form2;obtain⟨s2,A2,k2,ca2,B2,l2,cb2,rfl⟩:=hhi.form2;obtain⟨A,cap,e0,-⟩:=id h;obtain⟨n,hnn⟩:∃n,c.length=n:=⟨_,rfl⟩;rw [hnn] at e0;subst e0;obtain⟨z1,hz1⟩:∃z,flipsF c (atF lo)=z:=⟨_,rfl⟩;obtain⟨z2,hz2⟩:∃z,flipsF c (atF hi)=z:=⟨_,rfl⟩;have hb1:=flips_bound 0 (c.map (atF lo));have hb2:=flips_bound 0 (c.map (atF hi));rw [show flipsU 0 (c.map (atF lo))=z1 from hz1,List.length_map] at hb1;rw [show flipsU 0 (c.map (atF hi))=z2 from hz2,List.length_map] at hb2;have q3:IntKind.i64.wrap (z1 - z2)=z1 - z2:=IntWalk.i64_in _ (by omega);have HBE:=ZZ (show betweenF c lo hi=z1 - z2 by unfold betweenF;rw [hz1,hz2]);have HZ1:=ZZ hz1;have HZ2:=ZZ hz2;have HN:=ZZ hn;have HPR:=ZZ (cB_of hc);have HM0:=ZZ hM0;have HM:=ZZ hM;have BLO:=ZZ blo;have BHI:=ZZ bhi;rw [HBE.out];have x1:=ac w (.cells #[.bool s1,.slice A1 k1 ca1,.slice B1 l1 cb1] 36);have x2:=ac (w.alloc (.cells #[.bool s1,.slice A1 k1 ca1,.slice B1 l1 cb1] 36)) (.cells #[.bool s2,.slice A2 k2 ca2,.slice B2 l2 cb2] 36);have r1:=(x2.block _ (lt_of_block (heap_alloc_new w (.cells #[.bool s1,.slice A1 k1 ca1,.slice B1 l1 cb1] 36)))).trans (heap_alloc_new w (.cells #[.bool s1,.slice A1 k1 ca1,.slice B1 l1 cb1] 36));have r2:=heap_alloc_new (w.alloc (.cells #[.bool s1,.slice A1 k1 ca1,.slice B1 l1 cb1] 36)) (.cells #[.bool s2,.slice A2 k2 ca2,.slice B2 l2 cb2] 36);rw [World.size_alloc] at r2;have EW:=ZZ (al x1 x2);have N1:=ZZ (hlo.mono EW.out);have N2:=ZZ (hhi.mono EW.out)
 have HP:=ZZ (h.mono EW.out);have R1:=ZZ r1;have R2:=ZZ r2;clear hz1 hz2 hb1 hb2 hn hc hM0 hM blo bhi x1 x2 r1 r2 h hlo hhi hnn
 go_enter Tryz.func43,Tryz.ntmps43
 go_upto_region 1 with (fail)
 generalize (w.alloc (.cells #[.bool s1,.slice A1 k1 ca1,.slice B1 l1 cb1] _)).alloc (.cells #[.bool s2,.slice A2 k2 ca2,.slice B2 l2 cb2] _)=W0 at *;obtain⟨ga,hga⟩:∃g,w.heap.size=g:=⟨_,rfl⟩;obtain⟨gb,hgb⟩:∃g,w.heap.size+1=g:=⟨_,rfl⟩;rw [hgb,hga]
 have HC:=ZZ (show ∀W,Ext W0 W→W.cell? ⟨ga,0,none⟩=some (.bool s1)∧W.cell? ⟨ga,1,none⟩=some (.slice A1 k1 ca1)∧W.cell? ⟨ga,2,none⟩=some (.slice B1 l1 cb1)∧W.cell? ⟨gb,0,none⟩=some (.bool s2)∧W.cell? ⟨gb,1,none⟩=some (.slice A2 k2 ca2)∧W.cell? ⟨gb,2,none⟩=some (.slice B2 l2 cb2) from fun W k=>by
  obtain⟨y0,y1,y2,-⟩:=aj ((k.block _ (lt_of_block R1.out)).trans R1.out);obtain⟨u0,u1,u2,-⟩:=aj ((k.block _ (lt_of_block R2.out)).trans R2.out);rw [←hgb,←hga];exact⟨y0,y1,y2,u0,u1,u2⟩)
 clear hga hgb R1 R2;have hun:undef=.tuple #[]:=rfl;refine wp_region_noPanic ?_;refine wp_region_held_drew (S:=fun W=>W.cell? ⟨ga,0,none⟩=some (.bool s1)∧W.cell? ⟨ga,1,none⟩=some (.slice A1 k1 ca1)∧W.cell? ⟨ga,2,none⟩=some (.slice B1 l1 cb1)∧W.cell? ⟨gb,0,none⟩=some (.bool s2)∧W.cell? ⟨gb,1,none⟩=some (.slice A2 k2 ca2)∧W.cell? ⟨gb,2,none⟩=some (.slice B2 l2 cb2)) (by kernel_rfl) (HC.out _ (ae _)) (fun hHeld=>?_);refine take_a 0 7 ?_;refine take_a 1 8 ?_;refine take_a 4 11 ?_;refine take_a 5 12 ?_;refine call_p (i:=2) (some 9) rfl rfl (by kernel_rfl) (fun K hK=>?_)
 go_simp
 go_at_call 86
 refine(at_c _ lo _ (N1.out.mono (ae _))).mono ?_;rintro e w4 ⟨rfl,hw4⟩;have SG:=ZZ (hw4 ▸ sgn_at M HM0.out HM.out lo BLO.out (N1.out.mono (ae W0)));have hx1:=ZZ (show Ext W0 w4 from by rw [hw4];exact al (ae _) (ac _ _));clear hw4
 try go_wp2_with fail
 refine hK.out _ _ (HC.out _ hx1.out) (fun hHeld=>?_);clear hK K
 try simp only [Act.put,lyA,lyB,lyC]
 refine call_p (i:=3) (some 10) rfl rfl (by kernel_rfl) (fun K hK=>?_)
 go_simp
 go_at_call 38
 refine(flips_p _ _ c (atF lo) (PreM M) HN.out HPR.out _ (HP.out.mono hx1.out) SG.out z1 HZ1.out).mono ?_;rintro e w5 ⟨rfl,k5⟩;have hx2:=ZZ (al hx1.out k5);clear k5 SG
 try go_wp2_with fail
 refine hK.out _ _ (HC.out _ hx2.out) (fun hHeld=>?_);clear hK K
 try simp only [Act.put,lyA,lyB,lyC]
 refine call_p (i:=6) (some 13) rfl rfl (by kernel_rfl) (fun K hK=>?_)
 go_simp
 go_at_call 86
 refine(at_c _ hi _ (N2.out.mono hx2.out)).mono ?_;rintro e w6 ⟨rfl,hw6⟩;have SG:=ZZ (hw6 ▸ sgn_at M HM0.out HM.out hi BHI.out (N2.out.mono hx2.out));have hx3:=ZZ (show Ext W0 w6 from by rw [hw6];exact al hx2.out (ac _ _));clear hw6
 try go_wp2_with fail
 refine hK.out _ _ (HC.out _ hx3.out) (fun hHeld=>?_);clear hK K
 try simp only [Act.put,lyA,lyB,lyC]
 refine call_p (i:=7) (some 14) rfl rfl (by kernel_rfl) (fun K hK=>?_)
 go_simp
 go_at_call 38
 refine(flips_p _ _ c (atF hi) (PreM M) HN.out HPR.out _ (HP.out.mono hx3.out) SG.out z2 HZ2.out).mono ?_;rintro e w7 ⟨rfl,k7⟩;have hx4:=ZZ (al hx3.out k7);clear k7 SG
 try go_wp2_with fail
 refine hK.out _ _ (HC.out _ hx4.out) (fun hHeld=>?_);clear hK K
 try simp only [Act.put,lyA,lyB,lyC]
 refine take_a 8 15 ?_;refine take_a 9 6 ?_;refine wpAnyH_done (by kernel_rfl) ?_ _;refine NoPanic.normal ?_;go_wp2_with fail;go_ret;exact⟨rfl,al EW.out hx4.out⟩
def ownF (p:List Rat):List (List Rat):=chainF (simpleF p) (derivF (simpleF p))
def ownOk (M:Nat) (p:List Rat):Bool:=simpleOk M p && smB M (simpleF p) && chainOk M (simpleF p) (derivF (simpleF p)) && cB M (ownF p)
theorem chain_len (p q:List Rat):(chainF p q).length≤p.length+q.length+2:=by
 have:∀(k:Nat) (a b:List Rat),(chainU k a b).length≤k:=by
  intro k
  induction k with
  | zero=>intro a b;exact Nat.le_refl _
  | succ k ih=>
   intro a b;unfold chainU
   split
   ·exact Nat.zero_le _
   ·split
    ·simp
    ·rw [List.length_cons];exact Nat.succ_le_succ (ih _ _)
 exact this _ _ _
theorem simple_len (p:List Rat):(simpleF p).length≤p.length+1:=(div_len _ _).1
theorem own_len (p:List Rat):(ownF p).length≤2*p.length+4:=by
 have h1:=chain_len (simpleF p) (derivF (simpleF p));have h2:=simple_len p;have h3:=deriv_len (simpleF p);unfold ownF;omega
theorem own_p (M:Nat) (hM0:0<M) (hM:M≤4294967296) (vp:Value) (p:List Rat) (hlp:p.length≤90000) (w:World) (hp:Pl w vp p) (hok:ownOk M p=true):Calls Tryz.prog 42 #[vp] w fun e w'=>∃v,e=.returned v∧PlL w' v (ownF p)∧Ext w w':=by
 unfold ownOk at hok;rw [Bool.and_eq_true,Bool.and_eq_true,Bool.and_eq_true] at hok;obtain⟨⟨⟨h1,h2⟩,h3⟩,-⟩:=hok;have HP:=ZZ hp;have HLP:=ZZ hlp;have H1:=ZZ h1;have H2:=ZZ (sm_of h2);have H3:=ZZ h3;have HM0:=ZZ hM0;have HM:=ZZ hM;have LS:=ZZ (show (simpleF p).length≤100000 by have:=simple_len p;omega);clear hp hlp h1 h2 h3 hM0 hM
 go_enter Tryz.func42,Tryz.ntmps42
 go_wp2_with fail;refine(simple_p M HM0.out (Nat.le_trans HM.out (by decide)) _ p (by have:=HLP.out;omega) _ HP.out H1.out).mono ?_
 rintro e w3 ⟨v3,rfl,h3,k3⟩;have G3:=ZZ h3;have K3:=ZZ k3;clear h3 k3;go_wp2_with fail;refine(deriv_p M HM0.out (by have:=HM.out;omega) _ (simpleF p) (by have:=LS.out;omega) _ G3.out H2.out).mono ?_;rintro e w4 ⟨v4,rfl,h4,k4⟩;have G4:=ZZ h4.pl;have K4:=ZZ (al K3.out k4);have G3b:=ZZ (G3.out.mono k4);clear h4 k4;go_wp2_with fail;refine(chain_p M HM0.out HM.out _ _ (simpleF p) (derivF (simpleF p)) LS.out (Nat.le_trans (deriv_len _) LS.out) _ G3b.out G4.out H3.out).mono ?_;rintro e w5 ⟨v5,rfl,h5,k5⟩;have G5:=ZZ h5;have K5:=ZZ (al K4.out k5);clear h5 k5;go_wp2_with fail;go_ret;exact⟨_,rfl,G5.out,K5.out⟩
end Go.Proofs.YtaaoleakkaloeaaGreatDoor
