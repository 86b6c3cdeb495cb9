/- Spans of the values of a polynomial. Printed by gen_yb.py. -/
import Derived.Test.YtjamgccgoapbeaaGreatDoorGYa
import Derived.Test.YtjamgccgoapbeaaGreatDoorGSa
set_option linter.unusedVariables false
set_option maxRecDepth 100000
set_option maxHeartbeats 64000000
namespace Go.Proofs.YtjamgccgoapbeaaGreatDoor
open Go Go.RowKit Go.Shelf
set_option linter.unusedSimpArgs false
attribute [local go_sem] Oper.semAt_some
def stepS (a o:Rat × Rat) (c:Rat):Rat × Rat:=((au (mulS o.1 o.2 a.1 a.2).1 (mulS o.1 o.2 a.1 a.2).2).1+(au c c).1,(au (mulS o.1 o.2 a.1 a.2).1 (mulS o.1 o.2 a.1 a.2).2).2+(au c c).2)
def hornS (a:Rat × Rat) (xs:List Rat):Rat × Rat:=xs.foldl (stepS a) (0,0)
theorem hornS_snoc (a:Rat × Rat) (xs:List Rat) (c:Rat):hornS a (xs ++ [c])=stepS a (hornS a xs) c:=by simp [hornS]
def evS (L:List Rat) (a:Rat × Rat):Rat × Rat:=hornS a (trimF L).reverse
theorem bq_join2 {M:Nat} {s t:Rat × Rat} (hs:Bq M s.1∧Bq M s.2) (ht:Bq M t.1∧Bq M t.2):Bq M (joinQ s t).1∧Bq M (joinQ s t).2:=by
 unfold joinQ
 constructor
 ·dsimp only;unfold aw;split <;> first|exact hs.1|exact ht.1
 ·dsimp only;unfold ay;split <;> first|exact hs.2|exact ht.2
theorem bq_mulS2 {A M:Nat} {a b c d:Rat} (ha:Bq A a) (hb:Bq A b) (hc:Bq M c) (hd:Bq M d):Bq (A+M) (mulS a b c d).1∧Bq (A+M) (mulS a b c d).2:=
 bq_join2 (bq_sort (ha.mul hc) (ha.mul hd)) (bq_sort (hb.mul hc) (hb.mul hd))
theorem bq_stepS {A M:Nat} {a o:Rat × Rat} {c:Rat} (ho:Bq A o.1∧Bq A o.2) (ha:Bq M a.1∧Bq M a.2) (hc:Bq M c):Bq (A+M+M+1) (stepS a o c).1∧Bq (A+M+M+1) (stepS a o c).2:=by
 have h1:=bq_mulS2 ho.1 ho.2 ha.1 ha.2;have h2:=bq_sort h1.1 h1.2;have h3:=bq_sort hc hc;exact⟨h2.1.add h3.1,h2.2.add h3.2⟩
def OutS (M:Nat) (a:Rat × Rat) (go:Nat) (pre:List (Nat × Value × Rat)) (W:World):Prop:=∃(s2:Bool) (A2:Option Addr) (k2 ca2:Nat) (B2:Option Addr) (l2 cb2:Nat) (s3:Bool) (A3:Option Addr) (k3 ca3:Nat) (B3:Option Addr) (l3 cb3:Nat),W.heap[go]?=some (.cells #[.bool s2,.slice A2 k2 ca2,.slice B2 l2 cb2,.bool s3,.slice A3 k3 ca3,.slice B3 l3 cb3] 37 (0,0))∧Sp W (.agg #[.bool s2,.slice A2 k2 ca2,.slice B2 l2 cb2,.bool s3,.slice A3 k3 ca3,.slice B3 l3 cb3]) (hornS a (pre.map fun y=>y.2.2)).1 (hornS a (pre.map fun y=>y.2.2)).2∧Bq (pre.length*(M+M+1)+1) (hornS a (pre.map fun y=>y.2.2)).1∧Bq (pre.length*(M+M+1)+1) (hornS a (pre.map fun y=>y.2.2)).2
theorem put6_size (W:World) (g:Nat) (a b c d e f:Value):(put6 W g a b c d e f).heap.size=W.heap.size:=by simp [put6,World.setCell]
theorem put6_oth {W:World} {g k:Nat} (a b c d e f:Value) (h:k≠g):(put6 W g a b c d e f).heap[k]?=W.heap[k]?:=by
 unfold put6;rw [Below.heap_setCell _ _ _ _ h,Below.heap_setCell _ _ _ _ h,Below.heap_setCell _ _ _ _ h,Below.heap_setCell _ _ _ _ h,Below.heap_setCell _ _ _ _ h,Below.heap_setCell _ _ _ _ h]
theorem put6_keeps {W W5:World} {g:Nat} {cs:Array Value} {T:TypeId} {f':Nat × Nat} (k:Ext W W5) (hr:W.heap[g]?=some (.cells cs T f')) (a b c d e f:Value) (n:Nat):KeepsFrom n W (put6 W5 g a b c d e f):=
 ⟨by rw [put6_size];exact k.size,fun i o _ hi ho=>by
  have hne:i≠g:=fun e=>by subst e;rw [hr] at hi;cases hi;cases ho
  rw [put6_oth _ _ _ _ _ _ hne];exact(k.block _ (Array.getElem?_eq_some_iff.1 hi).1).trans hi⟩
theorem put6_keepZ {W W5:World} {g:Nat} {Z:Nat→Obj→Prop} (k:Ext W W5) (hz:∀o,¬ Z g o) (a b c d e f:Value):KeepZ Z W (put6 W5 g a b c d e f):=
 ⟨by rw [put6_size];exact k.size,fun i o hi _ hzi=>by
  have hne:i≠g:=fun e=>by subst e;exact hz _ hzi
  rw [put6_oth _ _ _ _ _ _ hne];exact(k.block _ (Array.getElem?_eq_some_iff.1 hi).1).trans hi⟩
theorem Sp.cb {W W':World} {v:Value} {lo hi:Rat} (h:Sp W v lo hi) (k:Cb W W'):Sp W' v lo hi:=by
 obtain⟨x0,x1,x2,y0,y1,y2,e,h1,h2⟩:=h;exact⟨x0,x1,x2,y0,y1,y2,e,h1.cb k,h2.cb k⟩
theorem noD6 {W:World} {g:Nat} {s A k ca B l cb s' A' k' ca' B' l' cb':_} {T:TypeId} (h:W.heap[g]?=some (.cells #[.bool s,.slice A k ca,.slice B l cb,.bool s',.slice A' k' ca',.slice B' l' cb'] T (0,0))):NoD W g:=by
 intro j z he;rw [cell_of_row W g j _ _ _ h] at he
 match j,he with
 | 0,he=>cases he
 | 1,he=>cases he
 | 2,he=>cases he
 | 3,he=>cases he
 | 4,he=>cases he
 | 5,he=>cases he
 | n+6,he=>rw [Array.getElem?_eq_none (by simp)] at he;cases he
theorem eval_span_p (M:Nat) (hM:0<M) (v vx:Value) (L0:List Rat) (a1 a2:Rat) (hl:L0.length≤100000) (hK:L0.length*(M+M+1)+1+M≤549755813888) (w:World) (hp:Pl w v L0) (hx:Sp w vx a1 a2) (hb:∀c ∈ L0,Bq M c) (bx1:Bq M a1) (bx2:Bq M a2):Calls Tryz.prog 10 #[v,vx] w fun e w'=>∃v',e=.returned v'∧Sp w' v' (evS L0 (a1,a2)).1 (evS L0 (a1,a2)).2∧Ext w w':=by
 obtain⟨s20,A20,k20,ca20,B20,l20,cb20,s21,A21,k21,ca21,B21,l21,cb21,rfl,-,-⟩:=hx.form;obtain⟨m,hm⟩:∃m,L0.length=m:=⟨_,rfl⟩;obtain⟨A,cap,rfl,-,-⟩:=id hp;rw [hm] at hp ⊢;obtain⟨L,hL⟩:∃L,trimF L0=L:=⟨_,rfl⟩;have HLT:=ZZ hL;have hll:L.length≤L0.length:=by rw [←hL];exact trim_le L0
 have HP:=ZZ hp;have HX:=ZZ hx;have HL0:=ZZ hl;have HL:=ZZ (Nat.le_trans hll hl);have HK:=ZZ (show L.length*(M+M+1)+1+M≤549755813888 from Nat.le_trans (Nat.add_le_add_right (Nat.add_le_add_right (Nat.mul_le_mul_right _ hll) 1) M) hK);have HB:=ZZ (show ∀c ∈ L,Bq M c from fun c hc=>hb c (trim_mem (by rw [hL];exact hc)));have BX1:=ZZ bx1;have BX2:=ZZ bx2;have HM0:=ZZ hM;clear hp hx hl hK hb bx1 bx2 hM hm hL hll;refine(callsIn_wide (n:=4)).1 ?_;refine callsIn_of_wp_marks Tryz.func10 rfl trivial ?_ rfl
 simp only [Tryz.ntmps10,List.size_toArray,List.length_cons,List.length_nil,Nat.reduceAdd,Nat.reduceSub,Array.replicate_succ,Array.replicate_zero,List.push_toArray,List.append_toArray,List.nil_append,List.cons_append]
 have x3:Ext w (((w.alloc (.cells #[.bool s20,.slice A20 k20 ca20,.slice B20 l20 cb20,.bool s21,.slice A21 k21 ca21,.slice B21 l21 cb21] 37)).alloc (.cells #[.bool false,.slice none 0 0,.slice none 0 0,.bool false,.slice none 0 0,.slice none 0 0] 37)).alloc (.cells #[.bool false,.slice none 0 0,.slice none 0 0,.bool false,.slice none 0 0,.slice none 0 0] 37)):=am (ab _ _) (am (ab _ _) (ab _ _));have ht:=trim_q _ L0 (by have:=HL0.out;omega) (((w.alloc (.cells #[.bool s20,.slice A20 k20 ca20,.slice B20 l20 cb20,.bool s21,.slice A21 k21 ca21,.slice B21 l21 cb21] 37)).alloc (.cells #[.bool false,.slice none 0 0,.slice none 0 0,.bool false,.slice none 0 0,.slice none 0 0] 37)).alloc (.cells #[.bool false,.slice none 0 0,.slice none 0 0,.bool false,.slice none 0 0,.slice none 0 0] 37)) (HP.out.mono x3);rw [HLT.out] at ht;have X3:=ZZ x3;have HTR:=ZZ ht;clear x3 ht
 gi_wp2_with (refine⟨trivial,?_⟩;gi_at_call 24;refine(callsIn_wide.2 HTR.out).mono ?_;rintro e w5 ⟨v5,rfl,h5,k5⟩;obtain⟨A5,m5,cap5,e5,hm5⟩:=h5.pl.form;subst e5;have H5:=ZZ h5;have K5:=ZZ k5;have HM5:=ZZ hm5;clear h5 k5 hm5)
 have bk:=backward_c (.slice A5 m5 cap5) ⟨_,_,_,rfl⟩
 gi_wp2_with (refine⟨trivial,?_⟩;gi_at_call 53;refine(callsIn_wide.2 (bk _)).mono ?_;rintro e w' ⟨rfl,rfl⟩)
 clear bk HTR;obtain⟨gx,hgx⟩:∃g,w.heap.size=g:=⟨_,rfl⟩;obtain⟨gr,hgr⟩:∃g,w.heap.size+1=g:=⟨_,rfl⟩;obtain⟨go,hgo⟩:∃g,w.heap.size+1+1=g:=⟨_,rfl⟩;have sz:∀(W:World) (o:Obj),(W.alloc o).heap.size=W.heap.size+1:=fun W o=>World.size_alloc W o;obtain⟨W3,hW3⟩:∃W,W=(((w.alloc (.cells #[.bool s20,.slice A20 k20 ca20,.slice B20 l20 cb20,.bool s21,.slice A21 k21 ca21,.slice B21 l21 cb21] 37)).alloc (.cells #[.bool false,.slice none 0 0,.slice none 0 0,.bool false,.slice none 0 0,.slice none 0 0] 37)).alloc (.cells #[.bool false,.slice none 0 0,.slice none 0 0,.bool false,.slice none 0 0,.slice none 0 0] 37)):=⟨_,rfl⟩
 have rx:W3.heap[gx]?=some (.cells #[.bool s20,.slice A20 k20 ca20,.slice B20 l20 cb20,.bool s21,.slice A21 k21 ca21,.slice B21 l21 cb21] 37 (0,0)):=by
  have h:=(am (ab (w.alloc (.cells #[.bool s20,.slice A20 k20 ca20,.slice B20 l20 cb20,.bool s21,.slice A21 k21 ca21,.slice B21 l21 cb21] 37)) (.cells #[.bool false,.slice none 0 0,.slice none 0 0,.bool false,.slice none 0 0,.slice none 0 0] 37)) (ab _ (.cells #[.bool false,.slice none 0 0,.slice none 0 0,.bool false,.slice none 0 0,.slice none 0 0] 37))).block w.heap.size (by rw [sz];omega:w.heap.size<(w.alloc (.cells #[.bool s20,.slice A20 k20 ca20,.slice B20 l20 cb20,.bool s21,.slice A21 k21 ca21,.slice B21 l21 cb21] 37)).heap.size);rw [hW3,←hgx];exact h.trans (heap_alloc_new w _)
 have rr:W3.heap[gr]?=some (.cells #[.bool false,.slice none 0 0,.slice none 0 0,.bool false,.slice none 0 0,.slice none 0 0] 37 (0,0)):=by
  have h:=(ab ((w.alloc (.cells #[.bool s20,.slice A20 k20 ca20,.slice B20 l20 cb20,.bool s21,.slice A21 k21 ca21,.slice B21 l21 cb21] 37)).alloc (.cells #[.bool false,.slice none 0 0,.slice none 0 0,.bool false,.slice none 0 0,.slice none 0 0] 37)) (.cells #[.bool false,.slice none 0 0,.slice none 0 0,.bool false,.slice none 0 0,.slice none 0 0] 37)).block (w.heap.size+1) (by rw [sz,sz];omega);rw [hW3,←hgr,h,←sz w (.cells #[.bool s20,.slice A20 k20 ca20,.slice B20 l20 cb20,.bool s21,.slice A21 k21 ca21,.slice B21 l21 cb21] 37)];exact heap_alloc_new _ _
 have ro:W3.heap[go]?=some (.cells #[.bool false,.slice none 0 0,.slice none 0 0,.bool false,.slice none 0 0,.slice none 0 0] 37 (0,0)):=by
  rw [hW3,←hgo,←sz w (.cells #[.bool s20,.slice A20 k20 ca20,.slice B20 l20 cb20,.bool s21,.slice A21 k21 ca21,.slice B21 l21 cb21] 37),←sz (w.alloc (.cells #[.bool s20,.slice A20 k20 ca20,.slice B20 l20 cb20,.bool s21,.slice A21 k21 ca21,.slice B21 l21 cb21] 37)) (.cells #[.bool false,.slice none 0 0,.slice none 0 0,.bool false,.slice none 0 0,.slice none 0 0] 37)];exact heap_alloc_new _ _
 rw [←hW3] at X3 H5 K5;have d8:go<W3.heap.size:=lt_of_block ro;have rx:=(K5.out.block _ (lt_of_block rx)).trans rx;have rr:=(K5.out.block _ (lt_of_block rr)).trans rr;have ro:=(K5.out.block _ (lt_of_block ro)).trans ro;rw [hgo,hgr,hgx];have hd:w.heap.size≤go∧gr≠go∧gx≠go∧w.heap.size≤gr:=⟨by omega,by omega,by omega,by omega⟩;clear hgx hgr hgo hW3 sz;obtain⟨d1,d3,d4,d7⟩:=hd;have x5:Ext w w5:=am X3.out K5.out;have xb:=ab w5 (.cells #[.slice A5 m5 cap5] 22);have rb:=heap_alloc_new w5 (.cells #[.slice A5 m5 cap5] 22);have rx:=(xb.block _ (lt_of_block rx)).trans rx;have rr:=(xb.block _ (lt_of_block rr)).trans rr;have hno:NoD w5 go:=noD6 ro;have d2:w5.heap.size≠go:=fun e=>by have:=lt_of_block ro;omega
 have ro:=(xb.block _ (lt_of_block ro)).trans ro
 have hv5:∀b o n c,Value.slice A5 m5 cap5=.slice (some ⟨b,o,none⟩) n c→L≠[]→b≠go:=fun b o n c e hne=>by
  rcases H5.out with ⟨e1,h⟩|⟨g,hg,h⟩
  ·exact absurd h hne
  ·obtain⟨cp,cur,e1,-⟩:=h
   rw [e1] at e
   injection e with e2 e3 e4
   injection e2 with e5
   injection e5 with e6
   omega
 have hp5:=H5.out.pl;have x1:=am x5 xb;have xww:=xb;generalize World.alloc w5 (.cells #[.slice A5 m5 cap5] 22)=W4 at *;have s4:w5.heap.size<W4.heap.size:=lt_of_block rb;have hbs:W4.cell? ⟨w5.heap.size,0,none⟩=some (.slice A5 m5 cap5):=by rw [cell_of_row _ _ _ _ _ _ rb];rfl
 have hZ:∀o:Obj,¬((fun (k:Nat) (_:Obj)=>(k<w5.heap.size∧k≠go)∨k=w5.heap.size) go o):=fun o h=>by
  rcases h with ⟨-,h⟩|h
  ·exact h rfl
  ·exact d2 h.symm
 have hstop:=back_stops go 3 (by decide) (.slice A5 m5 cap5) L (by have:=HL.out;omega) w5 hp5 hno hv5 W4 xww w5.heap.size hbs;generalize w5.heap.size=gb at *;have d5:w.heap.size≤W4.heap.size:=x1.size;have d6:go<W4.heap.size:=lt_of_block ro;clear rb H5 K5 hp5 hv5 hno xb X3 x5 hbs;refine wpIn_rangeR (gf:=104) (lb:=#[.pointer (some ⟨gb,0,none⟩)]) rfl (enters_of Tryz.func104 (by kernel_rfl) rfl) hstop (ae _) (fun _=>rfl) (fun pre W=>Hid (Ext w W∧W.heap[gx]?=some (.cells #[.bool s20,.slice A20 k20 ca20,.slice B20 l20 cb20,.bool s21,.slice A21 k21 ca21,.slice B21 l21 cb21] 37 (0,0))∧W.heap[gr]?=some (.cells #[.bool false,.slice none 0 0,.slice none 0 0,.bool false,.slice none 0 0,.slice none 0 0] 37 (0,0))∧OutS M (a1,a2) go pre W))
  (fun pre A' B' row hs hg hr=>by
   obtain⟨h1,h2,h3,s2,A2,k2,ca2,B2,l2,cb2,s3,A3,k3,ca3,B3,l3,cb3,h4,h5,h6⟩:=hs.out;exact ZZ ⟨ownz_ext h1 d5 hg hr,ownz_block hg hr h2,ownz_block hg hr h3,s2,A2,k2,ca2,B2,l2,cb2,s3,A3,k3,ca3,B3,l3,cb3,ownz_block hg hr h4,h5.cb (ownz_cb hg hr),h6⟩)
  (ZZ ⟨x1,rx,rr,_,_,_,_,_,_,_,_,_,_,_,_,_,_,ro,⟨_,_,_,_,_,_,rfl,Nm.zero _,Nm.zero _⟩,bq_zero _ (by omega),bq_zero _ (by omega)⟩)
  (fun y a' W=>∃(gc:Nat) (s30:Bool) (A30:Option Addr) (k30 ca30:Nat) (B30:Option Addr) (l30 cb30:Nat),gc≠go∧y.2.1=.agg #[.bool s30,.slice A30 k30 ca30,.slice B30 l30 cb30]∧W.heap[gc]?=some (.cells #[.bool s30,.slice A30 k30 ca30,.slice B30 l30 cb30] 35 (0,0))∧GotB L y W∧a'={ tmps:=#[.slice A m cap,.agg #[.bool s20,.slice A20 k20 ca20,.slice B20 l20 cb20,.bool s21,.slice A21 k21 ca21,.slice B21 l21 cb21],undef,.pointer (some ⟨gx,0,none⟩),.pointer (some ⟨gr,0,none⟩),.pointer (some ⟨go,0,none⟩),undef,.pointer (some ⟨gc,0,none⟩),.slice A m cap,.slice A5 m5 cap5,.func (.func 104) #[] #[.pointer (some ⟨gb,0,none⟩)],.int .i64 (y.1:Int),y.2.1,undef,undef,undef,undef,undef,undef,undef],defers:=[] })
  (fun y a' u A' B' row hs hg hr=>by
   obtain⟨gc,s30,A30,k30,ca30,B30,l30,cb30,h1,h2,h3,h4,h5⟩:=hs;exact⟨gc,s30,A30,k30,ca30,B30,l30,cb30,h1,h2,ownz_block hg hr h3,⟨h4.1.cb (ownz_cb hg hr),h4.2⟩,h5⟩)
  (fun _ _ _ _ hs _ _=>hs) ?assign ?body ?done
 case assign=>
  rintro l pre ⟨i,v',q⟩ W K hi hr hK;obtain⟨s30,A30,k30,ca30,B30,l30,cb30,e3⟩:=hr.1.form2;obtain rfl:v'=.agg #[.bool s30,.slice A30 k30 ca30,.slice B30 l30 cb30]:=e3
  have hlt:go<W.heap.size:=by
   obtain⟨-,-,-,s2,A2,k2,ca2,B2,l2,cb2,s3,A3,k3,ca3,B3,l3,cb3,h4,-⟩:=hi.out;exact lt_of_block h4
  have hK2:=fun gc h1 h3 h4=>hK { tmps:=#[.slice A m cap,.agg #[.bool s20,.slice A20 k20 ca20,.slice B20 l20 cb20,.bool s21,.slice A21 k21 ca21,.slice B21 l21 cb21],undef,.pointer (some ⟨gx,0,none⟩),.pointer (some ⟨gr,0,none⟩),.pointer (some ⟨go,0,none⟩),undef,.pointer (some ⟨gc,0,none⟩),.slice A m cap,.slice A5 m5 cap5,.func (.func 104) #[] #[.pointer (some ⟨gb,0,none⟩)],.int .i64 (i:Int),.agg #[.bool s30,.slice A30 k30 ca30,.slice B30 l30 cb30],undef,undef,undef,undef,undef,undef,undef],defers:=[] } (W.alloc (.cells #[.bool s30,.slice A30 k30 ca30,.slice B30 l30 cb30] 35)) (ab _ _) ⟨gc,s30,A30,k30,ca30,B30,l30,cb30,h1,rfl,h3,h4,rfl⟩;have hK3:=hK2 W.heap.size (by omega) (heap_alloc_new W _) ⟨hr.1.mono (ab _ _),hr.2⟩;clear hK hK2 hr hi
  simp only [encB]
  gi_wp2
  exact hK3
 case body=>
  rintro l pre ⟨i,v',q⟩ a' W hI ⟨gc,s30,A30,k30,ca30,B30,l30,cb30,hne,e3,hC,hgot,rfl⟩ hlen;obtain rfl:v'=.agg #[.bool s30,.slice A30 k30 ca30,.slice B30 l30 cb30]:=e3;obtain⟨hE,hX,hR,s2,A2,k2,ca2,B2,l2,cb2,s3,A3,k3,ca3,B3,l3,cb3,hO,hN,hB1,hB2⟩:=hI.out;have q9:pre.length<L.length:=hlen;obtain⟨o1,ho1⟩:∃o,(hornS (a1,a2) (pre.map fun y=>y.2.2)).1=o:=⟨_,rfl⟩;obtain⟨o2,ho2⟩:∃o,(hornS (a1,a2) (pre.map fun y=>y.2.2)).2=o:=⟨_,rfl⟩;have HO12:=ZZ (show hornS (a1,a2) (pre.map fun y=>y.2.2)=(o1,o2) by rw [←ho1,←ho2]);rw [ho1] at hB1 hN;rw [ho2] at hB2 hN;have HF:=ZZ (show ∀W':World,Ext W W'→W'.heap[gx]?=some (.cells #[.bool s20,.slice A20 k20 ca20,.slice B20 l20 cb20,.bool s21,.slice A21 k21 ca21,.slice B21 l21 cb21] 37 (0,0))∧W'.heap[go]?=some (.cells #[.bool s2,.slice A2 k2 ca2,.slice B2 l2 cb2,.bool s3,.slice A3 k3 ca3,.slice B3 l3 cb3] 37 (0,0))∧W'.heap[gc]?=some (.cells #[.bool s30,.slice A30 k30 ca30,.slice B30 l30 cb30] 35 (0,0)) from fun W' k=>⟨(k.block _ (lt_of_block hX)).trans hX,(k.block _ (lt_of_block hO)).trans hO,(k.block _ (lt_of_block hC)).trans hC⟩);have HXW:=ZZ (HX.out.mono hE);have HNW:=ZZ hN;have HCW:=ZZ hgot.1;have BC:=ZZ (HB.out _ hgot.2);have BO1:=ZZ hB1;have BO2:=ZZ hB2;have HEW:=ZZ hE;have HXR:=ZZ hX;have HRR:=ZZ hR;have HPM:=ZZ (show pre.length*(M+M+1)+1+M≤L.length*(M+M+1)+1+M from Nat.add_le_add_right (Nat.add_le_add_right (Nat.mul_le_mul_right _ (Nat.le_of_lt q9)) 1) M);have BM:=ZZ (bq_mulS2 hB1 hB2 BX1.out BX2.out);obtain⟨p0,p1,p2,p3,p4,p5,-⟩:=ai hX
  obtain⟨r0,r1,r2,r3,r4,r5,rf0,rf1,rf2,rf3,rf4,rf5⟩:=ai hO;obtain⟨t0,t1,t2,-⟩:=aj hC;clear hE hX hR hO hN hB1 hB2 hne hC hgot hlen q9 hI ho1 ho2;have hmx:Tryz.prog.follows .mixedOrders=true:=by kernel_rfl
  gi_wp2
  gi_region_with_o (first
   |(refine⟨trivial,?_⟩;gi_at_call 55;refine(CallsIn.inRound l (callsIn_wide.2 (mulS_c (pre.length*(M+M+1)+1+M) (Nat.le_trans HPM.out HK.out) _ _ o1 o2 a1 a2 _ (HNW.out.mono (ac _)) (HXW.out.mono (ac _)) (BO1.out.mono (by omega)) (BO2.out.mono (by omega)) (BX1.out.mono (by omega)) (BX2.out.mono (by omega))))).mono ?_;rintro e w5 ⟨v5,rfl,h5,kk5⟩;obtain⟨s5,A5,k5,ca5,B5,l5,cb5,s6,A6,k6,ca6,B6,l6,cb6,rfl,-,-⟩:=h5.form;have E5:=ZZ (show Ext W w5 from am (ac _) kk5);have H5:=ZZ h5;clear h5 kk5;obtain⟨-,y1,y2⟩:=HF.out w5 E5.out;obtain⟨aa0,aa1,aa2,-⟩:=aj y2;clear y1 y2)
   |(refine⟨trivial,?_⟩;gi_at_call 56;refine(CallsIn.inRound l (callsIn_wide.2 (point_c _ q _ (HCW.out.mono E5.out)))).mono ?_;rintro e w7 ⟨v7,rfl,h7,kk7⟩;obtain⟨s7,A7,k7,ca7,B7,l7,cb7,s8,A8,k8,ca8,B8,l8,cb8,rfl,-,-⟩:=h7.form;have E7:=ZZ (am E5.out kk7);have H5b:=ZZ (H5.out.mono kk7);have H7:=ZZ h7;clear h7 kk7)
   |(refine⟨trivial,?_⟩;gi_at_call 54;refine(CallsIn.inRound l (callsIn_wide.2 (add_s (pre.length*(M+M+1)+1+M) (by have h1:=HPM.out;have h2:=HK.out;omega) _ _ (mulS o1 o2 a1 a2).1 (mulS o1 o2 a1 a2).2 q q _ H5b.out H7.out BM.out.1 BM.out.2 (BC.out.mono (by omega)) (BC.out.mono (by omega))))).mono ?_;rintro e w9 ⟨v9,rfl,h9,kk9⟩;obtain⟨s9,A9,k9,ca9,B9,l9,cb9,s10,A10,k10,ca10,B10,l10,cb10,rfl,-,-⟩:=h9.form;have E9:=ZZ (am E7.out kk9);have H9:=ZZ h9;clear h9 kk9;obtain⟨y0,y1,y2⟩:=HF.out w9 E9.out;obtain⟨b0,b1,b2,b3,b4,b5,bf0,bf1,bf2,bf3,bf4,bf5⟩:=ai y1;have HY1:=ZZ y1;clear y0 y1 y2))
  all_goals gi_wp2
  all_goals refine⟨put6_keeps E9.out (HF.out W (ae _)).2.1 _ _ _ _ _ _ _,put6_keepZ E9.out hZ _ _ _ _ _ _,ZZ ⟨af (am HEW.out E9.out) d1 _ _ _ _ _ _,(put6_oth _ _ _ _ _ _ d4).trans ((E9.out.block _ (lt_of_block HXR.out)).trans HXR.out),(put6_oth _ _ _ _ _ _ d3).trans ((E9.out.block _ (lt_of_block HRR.out)).trans HRR.out),s9,A9,k9,ca9,B9,l9,cb9,s10,A10,k10,ca10,B10,l10,cb10,ag HY1.out _ _ _ _ _ _,?_,?_,?_⟩⟩
  all_goals first|(rw [List.map_append,List.map_singleton,hornS_snoc,HO12.out];exact H9.out.put6 HY1.out _ _ _ _ _ _)|(rw [List.map_append,List.map_singleton,hornS_snoc,List.length_append,List.length_singleton,Nat.succ_mul,HO12.out];exact(bq_stepS ⟨BO1.out,BO2.out⟩ ⟨BX1.out,BX2.out⟩ BC.out).1.mono (by omega))|(rw [List.map_append,List.map_singleton,hornS_snoc,List.length_append,List.length_singleton,Nat.succ_mul,HO12.out];exact(bq_stepS ⟨BO1.out,BO2.out⟩ ⟨BX1.out,BX2.out⟩ BC.out).2.mono (by omega))
 case done=>
  rintro D ys W hD hs hI hK;obtain⟨hE,hX,hR,s2,A2,k2,ca2,B2,l2,cb2,s3,A3,k3,ca3,B3,l3,cb3,hO,hN,hB1,hB2⟩:=hI.out;rw [hs,show hornS (a1,a2) L.reverse=evS L0 (a1,a2) by unfold evS;rw [HLT.out]] at hN;have HEW:=ZZ hE;have HNW:=ZZ hN;have HRR:=ZZ hR;have HKD:=ZZ hK;obtain⟨r0,r1,r2,r3,r4,r5,rf0,rf1,rf2,rf3,rf4,rf5⟩:=ai hO;obtain⟨t0,t1,t2,t3,t4,t5,tf0,tf1,tf2,tf3,tf4,tf5⟩:=ai hR;have hgd:gr≠D:=fun e=>by subst e;rw [hR] at hK;cases hK
  clear hI hs hE hX hR hO hN hB1 hB2 hK rx rr ro hstop hZ
  gi_wp2
  have hk3:(put6 W gr (.bool s2) (.slice A2 k2 ca2) (.slice B2 l2 cb2) (.bool s3) (.slice A3 k3 ca3) (.slice B3 l3 cb3)).heap[D]?=some (.deferred (some [])):=(put6_oth _ _ _ _ _ _ (fun e=>hgd e.symm)).trans HKD.out;refine⟨by simp,.inl ⟨_,_,rfl,run_takeDeferred hk3,?_⟩⟩;obtain⟨W9,hW9⟩:∃X,X=(put6 W gr (.bool s2) (.slice A2 k2 ca2) (.slice B2 l2 cb2) (.bool s3) (.slice A3 k3 ca3) (.slice B3 l3 cb3)).putObj D (.deferred none):=⟨_,rfl⟩
  have h9:W9.heap[gr]?=some (.cells #[.bool s2,.slice A2 k2 ca2,.slice B2 l2 cb2,.bool s3,.slice A3 k3 ca3,.slice B3 l3 cb3] 37 (0,0)):=by
   rw [hW9];exact(World.putObj_heap_other hgd).trans (ag HRR.out _ _ _ _ _ _)
  have hn9:Sp W9 (.agg #[.bool s2,.slice A2 k2 ca2,.slice B2 l2 cb2,.bool s3,.slice A3 k3 ca3,.slice B3 l3 cb3]) (evS L0 (a1,a2)).1 (evS L0 (a1,a2)).2:=(HNW.out.put6 HRR.out _ _ _ _ _ _).cb (by
   rw [hW9];exact ownz_cb (grownBy_putObj' _ _ _) (fun r e=>by cases e;exact⟨hD,_,hk3,rfl⟩))
  have he9:Ext w W9:=by
   rw [hW9];exact ownz_ext (af HEW.out d7 _ _ _ _ _ _) d5 (grownBy_putObj' _ _ _) (fun r e=>by cases e;exact⟨hD,_,hk3,rfl⟩)
  show LeavesInM _ _ _ _ _ _ _ _ ((put6 W gr (.bool s2) (.slice A2 k2 ca2) (.slice B2 l2 cb2) (.bool s3) (.slice A3 k3 ca3) (.slice B3 l3 cb3)).putObj D (.deferred none))
  rw [←hW9];clear hW9 hk3 r0 r1 r2 r3 r4 r5 rf0 rf1 rf2 rf3 rf4 rf5 t0 t1 t2 t3 t4 t5 tf0 tf1 tf2 tf3 tf4 tf5;obtain⟨t0,t1,t2,t3,t4,t5,-⟩:=ai h9;have HN9:=ZZ hn9;have HE9:=ZZ he9;clear h9 hn9 he9;refine⟨.agg #[.bool s2,.slice A2 k2 ca2,.slice B2 l2 cb2,.bool s3,.slice A3 k3 ca3,.slice B3 l3 cb3],by simp [results,Tryz.f10];go_simp,?_⟩;exact⟨_,rfl,HN9.out,HE9.out⟩
end Go.Proofs.YtjamgccgoapbeaaGreatDoor
