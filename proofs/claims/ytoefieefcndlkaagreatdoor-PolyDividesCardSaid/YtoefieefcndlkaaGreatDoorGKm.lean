/- The reference's polynomials, with a word on where their digits lie; rows that were appended to an empty literal. Square-free parts: Yun's way gives what the document says, and parts have the product that they must have. -/
import Derived.Test.YtoefieefcndlkaaGreatDoorGKe
import Derived.Test.YtoefieefcndlkaaGreatDoorGYd
set_option linter.unusedVariables false
set_option maxRecDepth 100000
set_option maxHeartbeats 64000000
namespace Go.Proofs.YtoefieefcndlkaaGreatDoor
open Go Go.RowKit
set_option linter.unusedSimpArgs false
theorem cell_same {W W':World} {b:Nat} (h:W'.heap[b]?=W.heap[b]?) (j:Nat):W'.cell? ⟨b,j,none⟩=W.cell? ⟨b,j,none⟩:=by simp [World.cell?,h]
def PlC (w:World) (C:Nat→Prop) (v:Value) (l:List Rat):Prop:=∃A cap,v=.slice A l.length cap∧l.length≤cap∧((A=none∧l=[])∨∃b o,A=some ⟨b,o,none⟩∧∀i q,l[i]?=some q→C b∧∃s A k ca B m cb,w.cell? ⟨b,o+i*3,none⟩=some (.int .i64 s)∧w.cell? ⟨b,o+i*3+1,none⟩=some (.slice A k ca)∧w.cell? ⟨b,o+i*3+2,none⟩=some (.slice B m cb)∧Nr w (.agg #[.int .i64 s,.slice A k ca,.slice B m cb]) q∧BlN C (.agg #[.int .i64 s,.slice A k ca,.slice B m cb]))
theorem PlC.pl {w:World} {C:Nat→Prop} {v:Value} {l:List Rat} (h:PlC w C v l):PlR w v l:=by
 obtain⟨A,cap,e,hc,h3⟩:=h;refine⟨A,cap,e,hc,?_⟩
 rcases h3 with h3|⟨b,o,e2,h4⟩
 ·exact .inl h3
 ·refine .inr ⟨b,o,e2,fun i q hq=>?_⟩
  obtain⟨-,s,A,k,ca,B,m,cb,c0,c1,c2,hn,-⟩:=h4 i q hq;exact⟨s,A,k,ca,B,m,cb,c0,c1,c2,hn⟩
theorem PlC.keep {w w':World} {C:Nat→Prop} {v:Value} {l:List Rat} (h:PlC w C v l) (k:∀b,C b→w'.heap[b]?=w.heap[b]?):PlC w' C v l:=by
 obtain⟨A,cap,e,hc,h3⟩:=h;refine⟨A,cap,e,hc,?_⟩
 rcases h3 with h3|⟨b,o,e2,h4⟩
 ·exact .inl h3
 ·refine .inr ⟨b,o,e2,fun i q hq=>?_⟩
  obtain⟨hb,s,A,k1,ca,B,m,cb,c0,c1,c2,hn,hbl⟩:=h4 i q hq;exact⟨hb,s,A,k1,ca,B,m,cb,by rw [cell_same (k b hb)];exact c0,by rw [cell_same (k b hb)];exact c1,by rw [cell_same (k b hb)];exact c2,hn.keepB hbl k,hbl⟩
theorem PlC.mono {w w':World} {C:Nat→Prop} {v:Value} {l:List Rat} (h:PlC w C v l) (k:Ext w w'):PlC w' C v l:=by
 obtain⟨A,cap,e,hc,h3⟩:=h;refine⟨A,cap,e,hc,?_⟩
 rcases h3 with h3|⟨b,o,e2,h4⟩
 ·exact .inl h3
 ·refine .inr ⟨b,o,e2,fun i q hq=>?_⟩
  obtain⟨hb,s,A,k1,ca,B,m,cb,c0,c1,c2,hn,hbl⟩:=h4 i q hq;exact⟨hb,s,A,k1,ca,B,m,cb,am k c0,am k c1,am k c2,hn.mono k,hbl⟩
theorem PlC.imp {w:World} {C D:Nat→Prop} {v:Value} {l:List Rat} (h:PlC w C v l) (k:∀b,C b→D b):PlC w D v l:=by
 obtain⟨A,cap,e,hc,h3⟩:=h;refine⟨A,cap,e,hc,?_⟩
 rcases h3 with h3|⟨b,o,e2,h4⟩
 ·exact .inl h3
 ·refine .inr ⟨b,o,e2,fun i q hq=>?_⟩
  obtain⟨hb,s,A,k1,ca,B,m,cb,c0,c1,c2,hn,hbl⟩:=h4 i q hq;exact⟨k b hb,s,A,k1,ca,B,m,cb,c0,c1,c2,hn,hbl.imp k⟩
theorem PlC.old {w:World} {C:Nat→Prop} {v:Value} {l:List Rat} (h:PlC w C v l):PlC w (fun b=>C b∧b<w.heap.size) v l:=by
 obtain⟨A,cap,e,hc,h3⟩:=h;refine⟨A,cap,e,hc,?_⟩
 rcases h3 with h3|⟨b,o,e2,h4⟩
 ·exact .inl h3
 ·refine .inr ⟨b,o,e2,fun i q hq=>?_⟩
  obtain⟨hb,s,A,k1,ca,B,m,cb,c0,c1,c2,hn,hbl⟩:=h4 i q hq;exact⟨⟨hb,World.block_lt_of_cell? w _ c0⟩,s,A,k1,ca,B,m,cb,c0,c1,c2,hn,hbl.both hn.old⟩
theorem PlR.old {w:World} {v:Value} {l:List Rat} (h:PlR w v l):PlC w (fun b=>b<w.heap.size) v l:=by
 obtain⟨A,cap,e,hc,h3⟩:=h;refine⟨A,cap,e,hc,?_⟩
 rcases h3 with h3|⟨b,o,e2,h4⟩
 ·exact .inl h3
 ·refine .inr ⟨b,o,e2,fun i q hq=>?_⟩
  obtain⟨s,A,k1,ca,B,m,cb,c0,c1,c2,hn⟩:=h4 i q hq;exact⟨World.block_lt_of_cell? w _ c0,s,A,k1,ca,B,m,cb,c0,c1,c2,hn,hn.old⟩
theorem PlC.take {w:World} {C:Nat→Prop} {A:Option Addr} {n c:Nat} {l:List Rat} (h:PlC w C (.slice A n c) l) {k:Nat} (hk:k≤l.length):PlC w C (.slice A k c) (l.take k):=by
 obtain⟨A',cap,e,hc,h3⟩:=h
 injection e with e1 e2 e3
 subst e1 e2 e3;have hl:(l.take k).length=k:=by rw [List.length_take];omega
 refine⟨A,c,by rw [hl],by rw [hl];omega,?_⟩
 rcases h3 with ⟨h3,h4⟩|⟨b,o,e2,h4⟩
 ·exact .inl ⟨h3,by rw [h4];simp⟩
 ·refine .inr ⟨b,o,e2,fun i q hq=>h4 i q ?_⟩
  rw [List.getElem?_take] at hq
  split at hq
  ·exact hq
  ·cases hq
theorem PlC.at_ {w:World} {C:Nat→Prop} {A:Option Addr} {n c:Nat} {l:List Rat} (h:PlC w C (.slice A n c) l) {i:Nat} {q:Rat} (hq:l[i]?=some q):∃b o s A' k ca B m cb,A=some ⟨b,o,none⟩∧C b∧w.cell? ⟨b,o+i*3,none⟩=some (.int .i64 s)∧w.cell? ⟨b,o+i*3+1,none⟩=some (.slice A' k ca)∧w.cell? ⟨b,o+i*3+2,none⟩=some (.slice B m cb)∧Nr w (.agg #[.int .i64 s,.slice A' k ca,.slice B m cb]) q∧BlN C (.agg #[.int .i64 s,.slice A' k ca,.slice B m cb]):=by
 obtain⟨A',cap,e,hc,h3⟩:=h
 injection e with e1 e2 e3
 subst e1 e2 e3
 rcases h3 with ⟨-,h4⟩|⟨b,o,e2,h4⟩
 ·rw [h4] at hq;cases hq
 ·obtain⟨hb,s,A1,k1,ca,B,m,cb,c0,c1,c2,hn,hbl⟩:=h4 i q hq
  exact⟨b,o,s,A1,k1,ca,B,m,cb,e2,hb,c0,c1,c2,hn,hbl⟩
def PlW (W:World) (C:Nat→Prop) (g:Nat) (l:List Rat):Prop:=∃cur,W.heap[g]?=some (.cells cur 75 (0,0))∧l.length*3≤cur.size∧∀i q,l[i]?=some q→∃s A k ca B m cb,W.cell? ⟨g,i*3,none⟩=some (.int .i64 s)∧W.cell? ⟨g,i*3+1,none⟩=some (.slice A k ca)∧W.cell? ⟨g,i*3+2,none⟩=some (.slice B m cb)∧Nr W (.agg #[.int .i64 s,.slice A k ca,.slice B m cb]) q∧BlN C (.agg #[.int .i64 s,.slice A k ca,.slice B m cb])
theorem PlW.mono {W W':World} {C:Nat→Prop} {g:Nat} {l:List Rat} (h:PlW W C g l) (k:Ext W W'):PlW W' C g l:=by
 obtain⟨cur,h1,h2,h3⟩:=h;refine⟨cur,(k.block _ (lt_of_block h1)).trans h1,h2,fun i q hq=>?_⟩;obtain⟨s,A,n,ca,B,m,cb,c0,c1,c2,hn,hb⟩:=h3 i q hq;exact⟨s,A,n,ca,B,m,cb,am k c0,am k c1,am k c2,hn.mono k,hb⟩
theorem PlW.plc {W:World} {C D:Nat→Prop} {g n c:Nat} {l:List Rat} (h:PlW W C g l) (hn:l.length=n) (hc:n≤c) (hD:∀b,C b→D b) (hg:D g):PlC W D (.slice (some ⟨g,0,none⟩) n c) l:=by
 obtain⟨cur,h1,h2,h3⟩:=h;subst hn;refine⟨_,_,rfl,hc,.inr ⟨g,0,rfl,fun i q hq=>?_⟩⟩;obtain⟨s,A,k,ca,B,m,cb,c0,c1,c2,hn,hb⟩:=h3 i q hq;rw [Nat.zero_add];exact⟨hg,s,A,k,ca,B,m,cb,c0,c1,c2,hn,hb.imp hD⟩
theorem PlW.set {W:World} {D:Nat→Prop} {g i:Nat} {l:List Rat} {q:Rat} {s:Int} {A B:Option Addr} {k ca m cb:Nat} (h:PlW W D g l) (hD:∀b,D b→b≠g) (hi:i<l.length) (hq:Nr W (.agg #[.int .i64 s,.slice A k ca,.slice B m cb]) q) (hb:BlN D (.agg #[.int .i64 s,.slice A k ca,.slice B m cb])):PlW (put3at W g (i*3) (.int .i64 s) (.slice A k ca) (.slice B m cb)) D g (l.set i q):=by
 obtain⟨cur,hh,h3,h4⟩:=id h;have hsz:i*3+2<cur.size:=by omega
 refine⟨_,put3at_row hh _ _ _,by rw [List.length_set];simpa using h3,fun j r hr=>?_⟩
 by_cases hj:i=j
 ·subst hj
  rw [List.getElem?_set_self hi] at hr;obtain rfl:q=r:=Option.some.inj hr;obtain⟨n0,n1,n2⟩:=put3at_new hh hsz (.int .i64 s) (.slice A k ca) (.slice B m cb);exact⟨s,A,k,ca,B,m,cb,n0,n1,n2,hq.keepB hb (fun b hb=>put3at_heap (hD b hb) _ _ _),hb⟩
 ·rw [List.getElem?_set_ne hj] at hr
  obtain⟨s1,A1,k1,ca1,B1,m1,cb1,c0,c1,c2,hn,hb1⟩:=h4 j r hr;exact⟨s1,A1,k1,ca1,B1,m1,cb1,by rw [put3at_cell hh _ _ _ g _ (.inr (by omega))];exact c0,by rw [put3at_cell hh _ _ _ g _ (.inr (by omega))];exact c1,by rw [put3at_cell hh _ _ _ g _ (.inr (by omega))];exact c2,hn.keepB hb1 (fun b hb=>put3at_heap (hD b hb) _ _ _),hb1⟩
theorem plw_new (w:World) (n:Nat) (C:Nat→Prop):PlW (w.alloc (.cells (zrwR n) 75)) C w.heap.size (List.replicate n 0):=by
 have hr:=heap_alloc_new w (.cells (zrwR n) 75);refine⟨zrwR n,hr,by rw [List.length_replicate];exact Nat.le_of_eq (size_madeCells _ _).symm,fun i q hq=>?_⟩;rw [List.getElem?_replicate] at hq
 split at hq
 ·rename_i hi
  obtain rfl:(0:Rat)=q:=Option.some.inj hq;obtain⟨z0,z1,z2⟩:=zrwR_get n i hi;exact⟨_,_,_,_,_,_,_,by rw [cell_of_row _ _ _ _ _ _ hr];exact z0,by rw [cell_of_row _ _ _ _ _ _ hr];exact z1,by rw [cell_of_row _ _ _ _ _ _ hr];exact z2,Nr.zero _,bln_mk blc_none blc_none⟩
 ·cases hq
theorem app_litC {w w0:World} {C:Nat→Prop} {A:Option Addr} {k cap:Nat} {l:List Rat} (ty:TypeId) (h:PlC w0 C (.slice A k cap) l) (he:Ext (w0.alloc (.cells #[] 75)) w) (hl:l.length≤1000000):∃g cap' w',(Builtin.append_ #[26,26] ty #[.slice (some ⟨w0.heap.size,0,none⟩) 0 0,.slice A k cap]).run Tryz.prog w=.ok (.slice (some ⟨g,0,none⟩) k cap') w'∧w0.heap.size≤g∧k≤cap'∧PlW w' C g l∧Ext w0 w':=by
 obtain⟨A',c',e,hc,h3⟩:=h
 injection e with e1 e2 e3
 subst e1 e2 e3;have e0:Ext w0 w:=ak (ab _ _) he
 rcases Nat.eq_zero_or_pos l.length with h0|h0
 ·rw [h0]
  refine⟨_,0,w,run_append0 w ty _ _ _,Nat.le_refl _,Nat.le_refl _,?_,e0⟩;rw [List.length_eq_zero_iff.1 h0];exact⟨#[],(he.block _ (lt_of_block (heap_alloc_new _ _))).trans (heap_alloc_new _ _),Nat.le_refl _,fun i q hq=>by cases hq⟩
 ·rcases h3 with ⟨-,h4⟩|⟨b,o,rfl,ht⟩
  ·rw [h4] at h0;cases h0
  have own:=(own_lit0 w0 w0.heap.size (Nat.le_refl _)).mono he
  have hcell:∀j,j<l.length*3→∃u,w.cell? ⟨b,o+j,none⟩=some u∧u.oneCell'=true:=fun j hj=>by
   have hi:j / 3<l.length:=by omega
   obtain⟨-,s,A1,k1,ca,B1,m,cb,c0,c1,c2,-⟩:=ht (j / 3) (l[j / 3]'hi) (List.getElem?_eq_getElem hi)
   rcases(show o+j=o+j / 3*3∨o+j=o+j / 3*3+1∨o+j=o+j / 3*3+2 by omega) with e|e|e
   ·exact⟨_,by rw [e];exact am e0 c0,rfl⟩
   ·exact⟨_,by rw [e];exact am e0 c1,rfl⟩
   ·exact⟨_,by rw [e];exact am e0 c2,rfl⟩
  obtain⟨v',w',hr,ho,hg,-⟩:=run_appendG2 elRf (C:=fun _=>True) (fun _ _=>trivial) w w0.heap.size ty _ 0 [] own ⟨b,o,none⟩ l.length cap (cellsL w b o (l.length*3)) (by simp [cellsL])
   (fun j u hu=>by
    have hj:=cellsL_lt hu;obtain⟨u',h1,-⟩:=hcell j hj;rw [cellsL_get hj,h1] at hu;rw [Addr.add_mid,h1,←Option.some.inj hu];rfl)
   (fun u hu=>by
    obtain⟨j,hj⟩:=List.mem_iff_getElem?.1 hu;have hj':=cellsL_lt hj;obtain⟨u',h1,h2⟩:=hcell j hj';rw [cellsL_get hj',h1] at hj;rw [←Option.some.inj hj];exact h2)
   (fun _ _=>trivial) h0 (by omega) (by unfold maxLen;omega) e0.size
  have e1:Ext w0 w':=ext_grownG e0 own hg;rw [Nat.zero_add,List.nil_append] at ho;obtain⟨-,h2⟩:=ho
  rcases h2 with ⟨-,h5⟩|⟨g,cap',cur,rfl,hgB,hgh,hgc,-,hsz,htk,-⟩
  ·omega
  refine⟨g,cap',w',hr,hgB,hgc,⟨cur,hgh,by rw [hsz];exact Nat.mul_le_mul_right 3 hgc,fun i q hq=>?_⟩,e1⟩;obtain⟨-,s,A1,k1,ca,B1,m,cb,c0,c1,c2,hn,hbl⟩:=ht i q hq;have hi':i<l.length:=(List.getElem?_eq_some_iff.1 hq).1
  have key:∀(r:Nat) (u:Value),r<3→w0.cell? ⟨b,o+i*3+r,none⟩=some u→w'.cell? ⟨g,i*3+r,none⟩=some u:=fun r u hr3 hu=>by
   have h6:(cellsL w b o (l.length*3))[i*3+r]?=some u:=by
    rw [cellsL_get (by omega),←Nat.add_assoc,am e0 hu];rfl
   rw [cell_of_row w' g _ _ _ _ hgh];rw [←htk,List.getElem?_take] at h6
   split at h6
   ·simpa using h6
   ·cases h6
  exact⟨s,A1,k1,ca,B1,m,cb,key 0 _ (by decide) c0,key 1 _ (by decide) c1,key 2 _ (by decide) c2,hn.mono e1,hbl⟩
theorem wpList_applitC {ops:Array Oper} {rest:List Oper} {o:Oper} {a:Act} {w w0:World} {Q:Exit→Act→World→Prop} {C:Nat→Prop} {A:Option Addr} {k cap:Nat} {l:List Rat} (hgd:o.guard=none) (s x:Operand) (ho:o.op=.call { callee:=.builtin .append,args:=#[s,x],argTypes:=#[26,26] }) (hs:a.eval s=.slice (some ⟨w0.heap.size,0,none⟩) 0 0) (hx:a.eval x=.slice A k cap) (h:PlC w0 C (.slice A k cap) l) (he:Ext (w0.alloc (.cells #[] 75)) w) (hl:l.length≤1000000) (hK:∀g cap' w',w0.heap.size≤g→k≤cap'→PlW w' C g l→Ext w0 w'→wpList Tryz.prog ops Q rest (a.put o.dst (.slice (some ⟨g,0,none⟩) k cap')) w'):wpList Tryz.prog ops Q (o :: rest) a w:=by
 refine wpList_plain hgd fun K hK'=>?_;obtain⟨g,cap',w',hr,h1,h2,h3,h4⟩:=app_litC o.type h he hl;unfold Oper.wp execOp
 simp only [ho,resolve,invoke,builtin,Sem.run_bind,Sem.run_pure,Result.andThen_ok,List.map_toArray,List.map_cons,List.map_nil,hs,hx,hr]
 exact hK' _ _ (hK g cap' w' h1 h2 h3 h4)
theorem trim_o (C:Nat→Prop) (v:Value) (l:List Rat) (hl:l.length≤1000000) (w:World) (h:PlC w C v l) (hC:∀b,w.heap.size≤b→C b):Calls Tryz.prog 89 #[v] w fun e w'=>∃v',e=.returned v'∧PlC w' C v' (trimF l)∧Ext w w':=by
 obtain⟨n,hn⟩:∃n,l.length=n:=⟨_,rfl⟩;obtain⟨A,cap,rfl,hc,h0⟩:=id h;rw [hn] at h ⊢;have HP:=ZZ h;have HL:=ZZ hl;have HN:=ZZ hn;have HC:=ZZ (show n≤cap by omega);have HCN:=ZZ hC;have hun:undef=.tuple #[]:=rfl;clear h hl hn hc h0 hC
 go_enter Tryz.func89,Tryz.ntmps89
 go_wp2_with fail
 go_loopg [3] n (fun k i wr=>Hid (k≤n)∧i=.int .i64 (k:Int)∧Hid (trimF (l.take k)=trimF l)∧Hid (Ext w wr))
 case atStart=>exact⟨ZZ (Nat.le_refl _),rfl,ZZ (by rw [List.take_of_length_le (Nat.le_of_eq HN.out)]),ZZ (ae _)⟩
 case round=>
  obtain⟨HK,rfl,HT,HE⟩:=hrel;rename World=>WR
  rcases Nat.eq_zero_or_pos gk with hz|hz
  ·subst hz
   have q1:decide ((0:Int)<((0:Nat):Int))=false:=rfl;have HP0:=ZZ ((HP.out.mono HE.out).take (Nat.zero_le _))
   go_wp2_with (at_builtin;refine wpList_applitC rfl _ _ rfl rfl rfl HP0.out (ae _) (by simp) ?_;intro g7 c7 w7 hg7 hc7 hp7 he7)
   go_ret;have e0:l.take 0=trimF l:=by rw [←HT.out];rfl
   rw [e0] at hp7;refine⟨_,rfl,hp7.plc (by rw [←e0];rfl) hc7 (fun b hb=>hb) (HCN.out _ (Nat.le_trans HE.out.size hg7)),ak HE.out he7⟩
  ·obtain⟨k,rfl⟩:∃k,gk=k+1:=⟨gk - 1,by omega⟩
   clear hz;have hk:=HK.out;obtain⟨q,hq⟩:∃q,l[k]?=some q:=⟨l[k]'(by rw [HN.out];omega),List.getElem?_eq_getElem _⟩;obtain⟨b,o,s,A1,k1,ca1,B1,l1,cb1,rfl,-,c0,c1,c2,hn,-⟩:=(HP.out.mono HE.out).at_ hq;obtain⟨c,hcs⟩:∃c,q.num.sign=c:=⟨_,rfl⟩;have HCS:=ZZ hcs;have HQ:=ZZ hq;have HNR:=ZZ hn;have q1:decide ((0:Int)<((k+1:Nat):Int))=true:=decide_eq_true (by omega);have q2:decide ((0:Int)<(k:Int)+1)=true:=decide_eq_true (by omega)
   have q3:IntKind.i64.wrap ((k:Int)+1 - 1)=(k:Int):=by
    have h1:=HL.out;have h2:=HN.out;rw [show (k:Int)+1 - 1=k by omega];exact IntWalk.i64_in _ (by omega)
   have q3':IntKind.i64.wrap (k:Int)=(k:Int):=by
    have h1:=HL.out;have h2:=HN.out;exact IntWalk.i64_in _ (by omega)
   have q4:(k:Int)<(n:Int):=by omega
   have q5:(0:Int)≤(k:Int):=by omega
   have q6:(k:Int)+1≤(cap:Int):=by have:=HC.out;omega
   have q7:(0:Int)≤(k:Int)+1:=by omega
   clear hcs hq hn hk;go_wp2_with fail;refine(sign_n _ q c HCS.out _ HNR.out).mono ?_;rintro e w5 ⟨rfl,k5⟩;have K5:=ZZ (ak HE.out k5);clear c0 c1 c2 k5
   by_cases hc0:c=0
   ·subst hc0
    have z0:((0:Int) == 0)=true:=rfl;have HZ:=ZZ ((num_zero_iff HCS.out).1 rfl);go_wp2_with fail
    go_roundg k
    case measure=>omega
    case rel=>exact⟨ZZ (by have:=HK.out;omega),rfl,ZZ (by have h1:=HQ.out;rw [HZ.out] at h1;rw [←trim_take_zero h1];exact HT.out),ZZ K5.out⟩
   ·have z0:(c == 0)=false:=beq_eq_false_iff_ne.2 hc0
    have HZ:=ZZ (fun e:q=0=>hc0 ((num_zero_iff HCS.out).2 e));have HPK:=ZZ ((HP.out.mono K5.out).take (show k+1≤l.length by have h1:=HN.out;have h2:=HK.out;omega));have HLK:=ZZ (show (l.take (k+1)).length=k+1 by rw [List.length_take];have h1:=HN.out;have h2:=HK.out;omega);clear hc0
    go_wp2_with (at_builtin;refine wpList_applitC rfl _ _ rfl rfl rfl HPK.out (ae _) (by have h1:=HL.out;simp;omega) ?_;intro g7 c7 w7 hg7 hc7 hp7 he7)
    go_ret;have e1:l.take (k+1)=trimF l:=by rw [←HT.out];exact(trim_take_ne HQ.out HZ.out).symm
    rw [e1] at hp7;have e2:(trimF l).length=k+1:=by rw [←e1];exact HLK.out
    refine⟨_,rfl,hp7.plc (by rw [e2]) hc7 (fun b hb=>hb) (HCN.out _ (Nat.le_trans K5.out.size hg7)),ak K5.out he7⟩
end Go.Proofs.YtoefieefcndlkaaGreatDoor
set_option linter.unusedVariables false
set_option maxRecDepth 100000
set_option maxHeartbeats 64000000
namespace Go.Proofs.YtoefieefcndlkaaGreatDoor
set_option linter.unusedSimpArgs false
theorem co_top_mul {p q:List Rat} (hp:0<dgF p) (hq:0<dgF q):co (mulF p q) (dgF p - 1+(dgF q - 1))=co p (dgF p - 1)*co q (dgF q - 1):=by
 rw [co_mulF];exact cnv_top _ (dgF q - 1) (fun k hk=>dg_ge (p:=q) (by omega)) (dgF p - 1) _ (fun k hk=>dg_ge (p:=p) (by omega))
theorem Mo.quo {p f h:List Rat} (hp:Mo p) (hp0:0<dgF p) (hf:Mo f) (ht:trimF h=h) (e:∀x,evR p x=evR f x*evR h x):Mo h∧0<dgF h:=by
 obtain⟨f0,h0⟩:=dg_parts e hp0;refine⟨⟨ht,.inr ?_⟩,h0⟩;have h1:=dg_mul e f0 h0;have h2:=co_top_mul f0 h0;have tp:topF p=1:=hp.2.resolve_left fun e=>by rw [e] at hp0;cases hp0
 have tf:topF f=1:=hf.2.resolve_left fun e=>by rw [e] at f0;cases f0
 rw [top_eq hp.1] at tp;rw [top_eq hf.1] at tf;rw [top_eq ht];rw [ev_inj (p:=mulF f h) (q:=p) (fun x=>by rw [ev_mulF,e]),show dgF f - 1+(dgF h - 1)=dgF p - 1 by omega,tp,tf] at h2
 grind
theorem Mo.mul {f h:List Rat} (hf:Mo f) (hh:Mo h) (f0:0<dgF f) (h0:0<dgF h):Mo (mulF f h):=by
 have tt:trimF (mulF f h)=mulF f h:=trim_trim _;refine⟨tt,.inr ?_⟩;have h1:=dg_mul (r:=mulF f h) (fun x=>ev_mulF _ _ x) f0 h0;have h2:=co_top_mul f0 h0;have tf:topF f=1:=hf.2.resolve_left fun e=>by rw [e] at f0;cases f0
 have th:topF h=1:=hh.2.resolve_left fun e=>by rw [e] at h0;cases h0
 rw [top_eq hf.1] at tf;rw [top_eq hh.1] at th;rw [top_eq tt,h1,show dgF f+dgF h - 1 - 1=dgF f - 1+(dgF h - 1) by omega,h2,tf,th];grind
theorem Mo.self {p:List Rat} (h:Mo p):monicF p=p:=(mo_mon p).uniq h (mon_dv p).1 (mon_dv p).2
theorem quo_trim (p q:List Rat):trimF (divF p q).1=(divF p q).1:=trim_trim _
theorem quo_eq {p q h:List Rat} (hq:0<dgF q) (ht:trimF h=h) (e:∀x,evR p x=evR q x*evR h x):(divF p q).1=h:=by
 have h1:=(div_exact (p:=p) hq ⟨h,e⟩).2;have h2:=ev_cancel (p:=q) (q:=(divF p q).1) (r:=h) hq fun x=>by rw [←e,h1 x];grind
 have h3:=trim_ev h2
 rwa [quo_trim,ht] at h3
theorem quo_dv {p q:List Rat} (hq:0<dgF q) (h:Dv q p) (x:Rat):evR p x=evR q x*evR (divF p q).1 x:=by
 rw [(div_exact hq h).2 x];grind
def nextP (p:List Rat):List Rat:=commonF p (derivF p)
theorem nextP_mo (p:List Rat):Mo (nextP p):=(gcd_gc p (derivF p)).2
theorem nextP_dv (p:List Rat):Dv (nextP p) p∧Dv (nextP p) (derivF p):=⟨(gcd_gc p (derivF p)).1.1,(gcd_gc p (derivF p)).1.2.1⟩
theorem nextP_pos {p:List Rat} (h:0<dgF p):0<dgF (nextP p):=((nextP_dv p).1.dg h).1
theorem nextP_less {p:List Rat} (h:1<dgF p):dgF (nextP p)<dgF p:=by
 have h1:=dg_deriv p
 have:=((nextP_dv p).2.dg (by omega)).2
 omega
def baseP (p:List Rat):List Rat:=(divF p (nextP p)).1
theorem base_ev {p:List Rat} (h:0<dgF p) (x:Rat):evR p x=evR (nextP p) x*evR (baseP p) x:=quo_dv (nextP_pos h) (nextP_dv p).1 x
theorem base_mo {p:List Rat} (hp:Mo p) (h:0<dgF p):Mo (baseP p)∧0<dgF (baseP p):=hp.quo h (nextP_mo p) (quo_trim _ _) (base_ev h)
theorem pow_add1 (a:Rat) (k:Nat):a ^ (k+1)=a ^ k*a:=Rat.pow_succ ..
theorem mul_pow (a b:Rat):∀k:Nat,(a*b) ^ k=a ^ k*b ^ k
 | 0=>by rw [Rat.pow_zero,Rat.pow_zero,Rat.pow_zero];grind
 | k+1=>by rw [Rat.pow_succ,Rat.pow_succ,Rat.pow_succ,mul_pow a b k];grind
theorem yun_step {p b c:List Rat} (hp:Mo p) (h1:1<dgF p) (hb:∀x,evR p x=evR (nextP p) x*evR b x) (hc:∀x,evR (derivF p) x=evR (nextP p) x*evR c x) (tb:trimF b=b):∃P C,commonF b (subF c (derivF b))=P∧Mo P∧0<dgF P∧1<dgF b∧(∀x,evR b x=evR P x*evR (baseP (nextP p)) x)∧(∀x,evR (subF c (derivF b)) x=evR P x*evR C x)∧trimF C=C∧(∀x,evR (derivF (nextP p)) x=evR (nextP (nextP p)) x*evR C x)∧Cop P (derivF P)∧Cop P (baseP (nextP p)):=by
 have hp0:0<dgF p:=by omega
 have q0:=nextP_pos hp0;have qm:=nextP_mo p;have ql:=nextP_less h1;obtain⟨bm,b0⟩:=hp.quo hp0 qm tb hb;have hbd:=dg_mul hb q0 b0
 have hcop:Cop b c:=by
  obtain⟨-,-,s,t,e⟩:=(gcd_gc p (derivF p)).1;refine⟨s,t,fun x=>?_⟩
  have h2:=ev_cancel (p:=nextP p) (q:=addF (mulF s b) (mulF t c)) (r:=[1]) q0 (fun x=>by
   rw [ev_addF,ev_mulF,ev_mulF,ev_one];have h3:evR (nextP p) x=_:=e x;rw [hb,hc] at h3
   grind) x
  rw [ev_addF,ev_mulF,ev_mulF,ev_one] at h2;exact h2
 generalize hq:nextP p=q at *;have r0:=nextP_pos q0;obtain⟨Bm,B0⟩:=base_mo qm q0;have hB:=base_ev q0;have hC:=quo_dv r0 (nextP_dv q).2
 have hBC:Cop (baseP q) (divF (derivF q) (nextP q)).1:=by
  obtain⟨-,-,s,t,e⟩:=(gcd_gc q (derivF q)).1;refine⟨s,t,fun x=>?_⟩
  have h2:=ev_cancel (p:=nextP q) (q:=addF (mulF s (baseP q)) (mulF t (divF (derivF q) (nextP q)).1)) (r:=[1]) r0 (fun x=>by
   rw [ev_addF,ev_mulF,ev_mulF,ev_one];have h3:evR (nextP q) x=_:=e x;rw [hB,hC] at h3
   grind) x
  rw [ev_addF,ev_mulF,ev_mulF,ev_one] at h2;exact h2
 have hCt:trimF (divF (derivF q) (nextP q)).1=(divF (derivF q) (nextP q)).1:=quo_trim _ _;generalize baseP q=B at *;generalize (divF (derivF q) (nextP q)).1=C at *
 have hrB:∀x,evR (subF c (derivF b)) x*evR B x=evR C x*evR b x:=by
  have h3:=ev_cancel (p:=nextP q) (q:=mulF (subF c (derivF b)) B) (r:=mulF C b) r0 fun x=>by
   rw [ev_mulF,ev_mulF,ev_subF];have h4:=deriv_prod hb x;rw [hc,hC,hB] at h4
   grind
  intro x;have h4:=h3 x;rw [ev_mulF,ev_mulF] at h4;exact h4
 have hdv:Dv B b:=hBC.dv (p:=mulF C b) (fun x=>by rw [ev_mulF]) ⟨subF c (derivF b),fun x=>by rw [ev_mulF,←hrB];grind⟩;have hP:=quo_dv B0 hdv;have hPt:trimF (divF b B).1=(divF b B).1:=quo_trim _ _;generalize (divF b B).1=P at *;obtain⟨Pm,P0⟩:=bm.quo b0 Bm hPt hP
 have hR:∀x,evR (subF c (derivF b)) x=evR P x*evR C x:=by
  have h3:=ev_cancel (p:=B) (q:=subF c (derivF b)) (r:=mulF P C) B0 fun x=>by
   rw [ev_mulF]
   have:=hrB x
   rw [hP] at this
   grind
  intro x;rw [h3,ev_mulF]
 have hgc:commonF b (subF c (derivF b))=P:=by
  obtain⟨s,t,e⟩:=hBC;refine gcd_is ⟨⟨B,fun x=>by rw [hP];grind⟩,⟨C,hR⟩,s,t,fun x=>?_⟩ Pm;rw [hP,hR]
  have:=e x
  grind
 have hcv:∀x,evR c x=evR (mulF (derivF P) B) x+evR P x*evR (addF C (derivF B)) x:=fun x=>by
  have h3:=hR x;rw [ev_subF,deriv_prod hP x] at h3;rw [ev_mulF,ev_addF]
  grind
 have h5:Cop P (mulF (derivF P) B):=(hcop.sub ⟨B,fun x=>by rw [hP];grind⟩).add (c:=scaleF (addF C (derivF B)) (-1)) fun x=>by
  have:=hcv x
  rw [ev_scaleF]
  grind
 refine⟨P,C,hgc,Pm,P0,by omega,fun x=>by rw [hP];grind,hR,hCt,fun x=>by rw [hC],?_,?_⟩
 ·exact(h5.symm.sub ⟨B,fun x=>by rw [ev_mulF]⟩).symm
 ·exact(h5.symm.sub ⟨derivF P,fun x=>by rw [ev_mulF];grind⟩).symm
def moreF (p:List Rat):List Rat:=if 1<(trimF p).length then (divF p (commonF p (derivF p))).1 else [1]
def rpartsU:Nat→List Rat→List (List Rat)
 | 0,_=>[]
 | n+1,p=>if 1<(trimF p).length then monicF (divF (divF p (commonF p (derivF p))).1 (moreF (commonF p (derivF p)))).1 :: rpartsU n (commonF p (derivF p)) else []
theorem more_base {p:List Rat} (hp:Mo p) (h0:0<dgF p):moreF p=baseP p:=by
 unfold moreF
 split
 ·rfl
 ·rename_i h
  have h1:¬ 1<dgF p:=h;obtain⟨m,b0⟩:=base_mo hp h0
  have:=dg_mul (base_ev h0) (nextP_pos h0) b0
  have q0:=nextP_pos h0;exact(mo_one_of m (by omega)).symm
def prodE:Nat→List (List Rat)→Rat→Rat
 | _,[],_=>1
 | k,P :: l,x=>evR P x ^ (k+1)*prodE (k+1) l x
theorem yun_loop:∀(n m:Nat) (p b c:List Rat),Mo p→0<dgF p→(∀x,evR p x=evR (nextP p) x*evR b x)→(∀x,evR (derivF p) x=evR (nextP p) x*evR c x)→trimF b=b→dgF p≤n→dgF p≤m→partsU n b c=rpartsU m p∧(∀l ∈ partsU n b c,Mo l∧0<dgF l∧Cop l (derivF l)∧Dv l b)∧(partsU n b c).Pairwise Cop∧∀k x,prodE k (partsU n b c) x=evR p x*evR b x ^ k
 | 0,m,p,b,c,hp,h0,_,_,_,hn,_=>by omega
 | n+1,0,p,b,c,hp,h0,_,_,_,hn,hm=>by omega
 | n+1,m+1,p,b,c,hp,h0,hb,hc,tb,hn,hm=>by
  have q0:=nextP_pos h0;have qm:=nextP_mo p
  rcases Nat.lt_or_ge 1 (dgF p) with h1|h1
  ·obtain⟨P,C,e1,Pm,P0,b1,e2,e3,tC,e4,c1,c2⟩:=yun_step hp h1 hb hc tb
   have ql:=nextP_less h1;obtain⟨Bm,B0⟩:=base_mo qm q0;have hd1:(divF b P).1=baseP (nextP p):=quo_eq P0 Bm.1 e2;have hd2:(divF (subF c (derivF b)) P).1=C:=quo_eq P0 tC e3;obtain⟨i1,i2,i3,i4⟩:=yun_loop n m (nextP p) (baseP (nextP p)) C qm q0 (base_ev q0) e4 Bm.1 (by omega) (by omega)
   have e5:partsU (n+1) b c=P :: partsU n (baseP (nextP p)) C:=by
    show (if 1<(trimF b).length then commonF b (subF c (derivF b)) :: partsU n (divF b (commonF b (subF c (derivF b)))).1 (divF (subF c (derivF b)) (commonF b (subF c (derivF b)))).1 else [])=_
    rw [if_pos (show 1<(trimF b).length from b1),e1,hd1,hd2]
   have e6:rpartsU (m+1) p=P :: rpartsU m (nextP p):=by
    show (if 1<(trimF p).length then monicF (divF (divF p (nextP p)).1 (moreF (nextP p))).1 :: rpartsU m (nextP p) else [])=_
    rw [if_pos (show 1<(trimF p).length from h1),more_base qm q0,show (divF p (nextP p)).1=b from quo_eq q0 tb hb,show (divF b (baseP (nextP p))).1=P from quo_eq B0 Pm.1 fun x=>by rw [e2];grind,Pm.self]
   rw [e5,e6,i1];rw [i1] at i2 i3 i4;refine⟨rfl,fun l hl=>?_,List.pairwise_cons.2 ⟨fun l hl=>?_,i3⟩,fun k x=>?_⟩
   ·rcases List.mem_cons.1 hl with rfl|hl
    ·exact⟨Pm,P0,c1,_,e2⟩
    ·obtain⟨a1,a2,a3,a4⟩:=i2 l hl
     exact⟨a1,a2,a3,a4.trans ⟨P,fun x=>by rw [e2];grind⟩⟩
   ·exact(c2.symm.sub (i2 l hl).2.2.2).symm
   ·show evR P x ^ (k+1)*prodE (k+1) _ x=_
    rw [i4 (k+1) x,hb x,e2 x,mul_pow,pow_add1 (evR P x),pow_add1 (evR (baseP (nextP p)) x)]
    have:=base_ev q0 x
    grind
  ·have hb0:=(dg_parts hb h0).2
   have hd:=dg_mul hb q0 hb0;obtain⟨bm,-⟩:=hp.quo h0 qm tb hb;have hbl:b=[1]:=mo_one_of bm (by omega)
   have e5:partsU (n+1) b c=[]:=by
    unfold partsU;rw [if_neg (show ¬ 1<(trimF b).length from by show ¬ 1<dgF b;omega)]
   have e6:rpartsU (m+1) p=[]:=by
    unfold rpartsU;rw [if_neg (show ¬ 1<(trimF p).length from by show ¬ 1<dgF p;omega)]
   rw [e5,e6];refine⟨rfl,(fun l hl=>by cases hl),List.Pairwise.nil,fun k x=>?_⟩;have hp1:p=[1]:=mo_one_of hp (by omega);rw [hbl,hp1,ev_one]
   show (1:Rat)=1*1 ^ k
   have:∀k:Nat,(1:Rat) ^ k=1:=fun k=>by
    induction k with
    | zero=>rfl
    | succ k ih=>rw [Rat.pow_succ,ih];grind
   rw [this];grind
theorem yun {p:List Rat} (h0:0<dgF p):partsF p=rpartsU (p.length+1) (monicF p)∧(∀l ∈ partsF p,Mo l∧0<dgF l∧Cop l (derivF l)∧Dv l p)∧(partsF p).Pairwise Cop∧∀x,prodE 0 (partsF p) x=evR (monicF p) x:=by
 have hm:=mo_mon p;have h1:0<dgF (monicF p):=by rw [dg_mon];exact h0
 have hl:=monic_len p;have hd:dgF (monicF p)=(monicF p).length:=hm.len;obtain⟨i1,i2,i3,i4⟩:=yun_loop ((monicF p).length+1) (p.length+1) (monicF p) (baseP (monicF p)) (divF (derivF (monicF p)) (nextP (monicF p))).1 hm h1 (base_ev h1) (quo_dv (nextP_pos h1) (nextP_dv _).2) (quo_trim _ _) (by omega) (by omega);refine⟨i1,fun l hl=>?_,i3,fun x=>?_⟩
 ·obtain⟨a1,a2,a3,a4⟩:=i2 l hl
  exact⟨a1,a2,a3,(a4.trans ⟨nextP (monicF p),fun x=>by rw [base_ev h1];grind⟩).trans (mon_dv p).1⟩
 ·have:=i4 0 x
  rw [Rat.pow_zero] at this;rw [show prodE 0 (partsF p) x=prodE 0 (partsU ((monicF p).length+1) (baseP (monicF p)) (divF (derivF (monicF p)) (nextP (monicF p))).1) x from rfl,this]
  grind
theorem next_mon (p:List Rat):nextP (monicF p)=nextP p:=by
 rcases Nat.eq_zero_or_pos (dgF p) with h|h
 ·have e1:trimF (monicF p)=trimF p:=trim_ev fun x=>by rw [mon_nil h,dgz h];rfl
  unfold nextP commonF;have h2:=dg_deriv p;have h3:=dg_deriv (monicF p);rw [dg_mon] at h3;rw [mon_nil (p:=derivF p) (by omega),mon_nil (p:=derivF (monicF p)) (by omega),(mo_mon p).self]
  show comU _ _ []=comU _ _ []
  simp [comU]
 ·refine gcd_is ?_ (nextP_mo p)
  obtain⟨g1,g2,s,t,e⟩:=(gcd_gc p (derivF p)).1
  have hd:∀x,evR (derivF (monicF p)) x=evR (derivF p) x*(1 / topF (trimF p)):=fun x=>by
   rw [deriv_prod (p:=p) (q:=[1 / topF (trimF p)]) (fun x=>by rw [ev_const];exact mon_ev h x) x,ev_const]
   have:evR (derivF [1 / topF (trimF p)]) x=0:=dgz (by rw [dg_deriv];have:=dg_len [1 / topF (trimF p)];simp at this;omega) x
   rw [this];grind
  have ht:=inv_ne (top_trim_ne (trim_ne h));refine⟨g1.trans (mon_dv p).2,g2.trans ⟨[1 / topF (trimF p)],fun x=>by rw [ev_const];exact hd x⟩,scaleF s (topF (trimF p)),scaleF t (topF (trimF p)),fun x=>?_⟩;have h2:evR (nextP p) x=_:=e x;rw [h2,ev_scaleF,ev_scaleF,hd,mon_ev h];generalize topF (trimF p)=u at *;generalize 1 / u=v at *;generalize evR s x=A;generalize evR p x=B;generalize evR t x=C;generalize evR (derivF p) x=D;have e1:A*u*(B*v)+C*u*(D*v)=(A*B+C*D)*(u*v):=by grind
  rw [e1,ht];grind
theorem rparts_mon (m:Nat) {p:List Rat} (h0:0<dgF p):rpartsU m p=rpartsU m (monicF p):=by
 cases m with
 | zero=>rfl
 | succ m=>
  show (if 1<(trimF p).length then monicF (divF (divF p (nextP p)).1 (moreF (nextP p))).1 :: rpartsU m (nextP p) else [])=(if 1<(trimF (monicF p)).length then monicF (divF (divF (monicF p) (nextP (monicF p))).1 (moreF (nextP (monicF p)))).1 :: rpartsU m (nextP (monicF p)) else [])
  rw [next_mon];have e1:(trimF (monicF p)).length=(trimF p).length:=dg_mon p;rw [e1]
  by_cases h1:1<(trimF p).length
  ·rw [if_pos h1,if_pos h1]
   refine congrArg (fun z=>z :: rpartsU m (nextP p)) ?_;have q0:=nextP_pos h0;have qm:=nextP_mo p;have hm:=mo_mon p;have m0:0<dgF (monicF p):=by rw [dg_mon];exact h0
   have m1:1<dgF (monicF p):=by rw [dg_mon];exact h1
   have hb:=base_ev m0;obtain⟨P,C,-,Pm,P0,-,e2,-⟩:=yun_step hm m1 hb (quo_dv (nextP_pos m0) (nextP_dv _).2) (quo_trim _ _);rw [next_mon] at hb e2;obtain⟨Bm,B0⟩:=base_mo qm q0;have ht:=top_trim_ne (trim_ne h0);rw [more_base qm q0,show (divF (monicF p) (nextP p)).1=baseP (monicF p) from quo_eq q0 (quo_trim _ _) hb,show (divF (baseP (monicF p)) (baseP (nextP p))).1=P from quo_eq B0 Pm.1 fun x=>by rw [e2];grind,Pm.self]
   have h3:∀x,evR (divF p (nextP p)).1 x=evR (baseP (monicF p)) x*topF (trimF p):=by
    have:=ev_cancel (p:=nextP p) (q:=(divF p (nextP p)).1) (r:=scaleF (baseP (monicF p)) (topF (trimF p))) q0 fun x=>by
     rw [←quo_dv q0 (nextP_dv p).1 x,ev_scaleF,mon_back h0,hb];grind
    intro x;rw [this,ev_scaleF]
   have h4:∀x,evR (divF (divF p (nextP p)).1 (baseP (nextP p))).1 x=evR P x*topF (trimF p):=by
    have:=ev_cancel (p:=baseP (nextP p)) (q:=(divF (divF p (nextP p)).1 (baseP (nextP p))).1) (r:=scaleF P (topF (trimF p))) B0 fun x=>by
     rw [←quo_dv B0 ⟨scaleF P (topF (trimF p)),fun x=>by rw [ev_scaleF,h3,e2];grind⟩ x,ev_scaleF,h3,e2];grind
    intro x;rw [this,ev_scaleF]
   have h5:0<dgF (divF (divF p (nextP p)).1 (baseP (nextP p))).1:=(dg_parts (r:=P) (p:=(divF (divF p (nextP p)).1 (baseP (nextP p))).1) (q:=[1 / topF (trimF p)]) (fun x=>by rw [h4,ev_const];have:=inv_ne ht;grind) P0).1;exact(mo_mon _).uniq Pm ((mon_dv _).1.trans ⟨[1 / topF (trimF p)],fun x=>by rw [h4,ev_const];have:=inv_ne ht;grind⟩) (Dv.trans ⟨[topF (trimF p)],fun x=>by rw [h4,ev_const]⟩ (mon_dv _).2)
  ·rw [if_neg h1,if_neg h1]
end Go.Proofs.YtoefieefcndlkaaGreatDoor
