/- Arguments that are slices of strings, opened and shut; the answer of a law's row with places. The reference's polynomials in memory: slices of its numbers, of others and of the call's own. The reference's polynomials: a coefficient, what is left without zeros, the degree. -/
import Derived.Test.YtoefieefcndlkaaGreatDoorGYt
import Derived.Deep.Strs
import Derived.WalkKit
import Derived.ProofKit
import Derived.OpenShut
import Derived.RowKit
import Derived.Test.YtoefieefcndlkaaGreatDoorGRt
import Derived.Test.YtoefieefcndlkaaGreatDoorGYf
import Derived.Test.YtoefieefcndlkaaGreatDoorGYu
set_option linter.unusedVariables false
set_option maxRecDepth 100000
set_option maxHeartbeats 64000000
namespace Go.Proofs.YtoefieefcndlkaaGreatDoor
open Go Go.ChangeShapes Go.WideShapes Go.ChangeAt Go.RowKit Go.Deep
theorem ext_frozenP {W W':World} (h:Ext W W') {b:Nat} (hb:b<W.heap.size) (o:Nat) (s:_):W'.frozen? ⟨b,o,s⟩=W.frozen? ⟨b,o,s⟩:=by
 have h1:=h.block b hb;unfold World.frozen?
 simp only [h1]
theorem post_extP {H:Type} {enc:TypeId × Value→H} {f:Func} {s:ChangeSpec} {apart fresh handsOn again:Bool} {W W':World} {args:Array Value} {v:Value} {ds gs:List (DataW H)} {pa:List MemPlace} (hW:DataW.Whole enc Tryz.prog f.params.toList s.vars apart W args.toList ds gs pa) (hres:∀(b:Nat) (sp:Nat→Bool) (hd:Bool),DataW.TrodAll enc Tryz.prog W' b sp hd f.resultTypes.toList (v.resultList f.resultTypes.size) (s.fn H (ds ++ gs)).results []) (hargs:∀sp:Nat→Bool,(∀p ∈ pa,sp p.block=true)→DataW.TrodAll enc Tryz.prog W' 0 sp true f.params.toList args.toList (s.fn H (ds ++ gs)).args pa) (hvars:∀sp:Nat→Bool,DataW.TrodVars enc Tryz.prog W' sp s.vars (s.fn H (ds ++ gs)).vars []) (hk:Ext W W') (hok:∀(j:Nat) (t:TypeId) (r:Value),f.resultTypes[j]?=some t→(v.resultList f.resultTypes.size)[j]?=some r→Value.okWide Tryz.prog W' .any 0 t r):s.post enc Tryz.prog f apart fresh handsOn again W args v W':=by
 have hold:∀p ∈ pa,(fun b=>decide (b<W.heap.size)) p.block=true:=fun p hp=>by simpa using hW.lt p hp
 have hlt:=fun p hp=>hW.lt p hp;refine⟨ds,gs,pa,[],pa,[],hW,hres _ _ _,hargs _ hold,hvars _,World.keptBut_mono (fun p hp=>⟨hp,Or.inr (Or.inl hp)⟩) (hk.frame (· ∈ pa)),fun _=>?_⟩;obtain⟨_,_,_,_,_,hz,hn⟩:=hW;refine⟨hok,_,_,([] ++ pa) ++ [],⟨[] ++ pa,[],trodAll_append (hargs _ (fun _ _=>rfl)) (hres _ _ _),hvars _,rfl,?_,?_⟩,?_⟩
 ·intro b off hp
  have hp':MemPlace.cell b off ∈ pa:=by simpa using hp
  rw [ext_frozenP hk (b:=b) (hlt _ hp')];exact hz b off hp'
 ·intro ha
  simpa using hn ha
 ·intro p hp _
  simpa using hp
theorem open_stl {H:Type} {enc:TypeId × Value→H} {W:World} {b0:Nat} {T E:TypeId} {v:Value} {d:DataW H} {ps:List MemPlace} (ht:Tryz.prog.underlying T=some (.slice E)) (he:Tryz.prog.underlying E=some .string) (hc:Tryz.prog.cellsOf E=1) (hv:Value.okWide Tryz.prog W .any b0 T v) (h:DataW.Trod enc Tryz.prog W 0 (fun _=>true) true T v d ps):∃ls,Stl W v ls∧∀W',Ext W W'→∀sp:Nat→Bool,(∀p ∈ ps,sp p.block=true)→DataW.Trod enc Tryz.prog W' 0 sp true T v d ps:=by
 obtain⟨a0,len,cap,rfl⟩:=okWide_slice ht hv;obtain⟨fuel,hf⟩:=h
 rcases open_strs ht he hc hf with ⟨hcs,hx⟩|⟨a,len',cap',m,Sx,hcs,_,hl,hm,hmm,hx,hcell⟩
 ·simp [Value.cells] at hcs
  obtain⟨rfl,rfl,rfl⟩:=hcs
  simp only [Prod.mk.injEq] at hx
  obtain⟨rfl,rfl⟩:=hx;exact⟨[],.inl ⟨⟨_,_,rfl⟩,rfl⟩,fun W' _ sp _=>shut_slice_nil ht⟩
 simp [Value.cells] at hcs
 obtain⟨rfl,rfl,rfl⟩:=hcs
 simp only [Prod.mk.injEq] at hx
 obtain⟨rfl,rfl⟩:=hx
 simp only [if_true] at hmm
 subst hmm;obtain⟨b,off,spot⟩:=a
 by_cases hc0:m=0
 ·subst hc0
  have hlen0:len=0:=by omega
  subst hlen0;refine⟨[],.inl ⟨⟨_,_,rfl⟩,rfl⟩,fun W' _ sp _=>?_⟩
  show ∃n,DataW.trod enc Tryz.prog W' 0 sp true n T [.slice (some ⟨b,off,spot⟩) 0 0]=some (.slice [] [],[])
  cases hsp:sp b
  ·simpa [MemPlace.row] using shut_slice_cells (enc:=enc) (w:=W') (base:=0) (spare:=sp) (held:=true) (a:=⟨b,off,spot⟩) (len:=0) (cap:=0) ht (Nat.zero_le _) (Nat.le_refl _) (Nat.zero_le _) hsp (fun _=>.nil) (fun _=>[]) (fun i hi=>absurd hi (Nat.not_lt_zero _))
  ·simpa [MemPlace.row] using shut_slice_whole_cells (enc:=enc) (w:=W') (base:=0) (spare:=sp) (held:=true) (a:=⟨b,off,spot⟩) (len:=0) (cap:=0) ht (Nat.zero_le _) (Nat.le_refl _) (Nat.zero_le _) hsp (fun _=>.nil) (fun _=>[]) (fun i hi=>absurd hi (Nat.not_lt_zero _))
 have hspot:spot=none:=by simpa [Addr.add] using World.cell?_spot (hcell 0 (by omega)).1
 subst hspot;have hcell':∀j,j<m→W.cell? ⟨b,off+j,none⟩=some (.string (Sx j)):=fun j hj=>by rw [←add_plain];exact(hcell j hj).1
 refine⟨(List.range len).map fun i=>(Sx i).data.toList,.inr ⟨b,off,m,by simp,by simp;omega,fun s hs=>?_,fun i s hs=>?_⟩,fun W' k sp hsp=>?_⟩
 ·obtain⟨i,hi,rfl⟩:=List.mem_map.1 hs
  have:=(hcell i (by have:=List.mem_range.1 hi;omega)).2
  rw [Array.length_toList];exact this
 ·rw [List.getElem?_map] at hs
  have hi:i<len:=by
   rcases Nat.lt_or_ge i len with h|h
   ·exact h
   ·rw [List.getElem?_eq_none (by simpa using h)] at hs;cases hs
  rw [List.getElem?_range hi] at hs;obtain rfl:=Option.some.inj hs;exact hcell' i (by omega)
 ·exact shut_strs_whole (enc:=enc) (w:=W') (base:=0) (spare:=sp) (held:=true) ht he hc (Nat.zero_le _) hl hm (hsp (.cell b (off+0)) (MemPlace.mem_row.2 ⟨0,by omega,rfl⟩)) Sx (fun i hi=>am k (hcell' i hi)) (fun i hi=>(hcell i hi).2)
end Go.Proofs.YtoefieefcndlkaaGreatDoor
set_option linter.unusedVariables false
set_option maxRecDepth 100000
set_option maxHeartbeats 64000000
namespace Go.Proofs.YtoefieefcndlkaaGreatDoor
open Go.RowKit
def OwnQ (w:World) (B:Nat) (v:Value) (l:List Rat):Prop:=∃xs,OwnG w B 75 3 (fun _=>True) v l.length xs∧∀i q,l[i]?=some q→∃s A k ca C m cb,xs[i*3]?=some (.int .i64 s)∧xs[i*3+1]?=some (.slice A k ca)∧xs[i*3+2]?=some (.slice C m cb)∧Nr w (.agg #[.int .i64 s,.slice A k ca,.slice C m cb]) q∧BlN (fun b=>v.ownBlock≠some b) (.agg #[.int .i64 s,.slice A k ca,.slice C m cb])
theorem OwnQ.nil (w:World) (B:Nat):OwnQ w B (.slice none 0 0) []:=⟨[],OwnG.nil w B _ _ _,fun i q h=>by cases h⟩
theorem OwnQ.mono {w w':World} {B:Nat} {v:Value} {l:List Rat} (h:OwnQ w B v l) (k:Ext w w'):OwnQ w' B v l:=by
 obtain⟨xs,h1,h2⟩:=h;refine⟨xs,h1.mono k,fun i q hq=>?_⟩;obtain⟨s,A,n,ca,C,m,cb,x0,x1,x2,hn,hb⟩:=h2 i q hq;exact⟨s,A,n,ca,C,m,cb,x0,x1,x2,hn.mono k,hb⟩
theorem OwnQ.pl {w:World} {B:Nat} {v:Value} {l:List Rat} (h:OwnQ w B v l):PlR w v l:=by
 obtain⟨xs,⟨hlen,h2⟩,hx⟩:=h
 rcases h2 with ⟨rfl,h0⟩|⟨g,cap,cur,rfl,-,hg,hc,-,-,ht,-⟩
 ·rw [List.length_eq_zero_iff.1 h0];exact PlR.nil w
 ·refine⟨_,cap,rfl,hc,.inr ⟨g,0,rfl,fun i q hq=>?_⟩⟩
  obtain⟨s,A,k,ca,C,m,cb,x0,x1,x2,hn,-⟩:=hx i q hq
  have key:∀(j:Nat) (u:Value),xs[j]?=some u→w.cell? ⟨g,j,none⟩=some u:=fun j u hu=>by
   rw [cell_of_row w g j _ _ _ hg];rw [←ht,List.getElem?_take] at hu
   split at hu
   ·simpa using hu
   ·cases hu
  rw [Nat.zero_add];exact⟨s,A,k,ca,C,m,cb,key _ _ x0,key _ _ x1,key _ _ x2,hn⟩
theorem OwnQ.snoc {w w':World} {B:Nat} {v v':Value} {l:List Rat} {xs:List Value} {q:Rat} {s:Int} {A C:Option Addr} {k ca m cb:Nat} (hown:OwnG w B 75 3 (fun _=>True) v l.length xs) (hx:∀i q,l[i]?=some q→∃s A k ca C m cb,xs[i*3]?=some (.int .i64 s)∧xs[i*3+1]?=some (.slice A k ca)∧xs[i*3+2]?=some (.slice C m cb)∧Nr w (.agg #[.int .i64 s,.slice A k ca,.slice C m cb]) q∧BlN (fun b=>v.ownBlock≠some b) (.agg #[.int .i64 s,.slice A k ca,.slice C m cb])) (hq:Nr w (.agg #[.int .i64 s,.slice A k ca,.slice C m cb]) q) (hb:BlN (fun b=>v.ownBlock≠some b) (.agg #[.int .i64 s,.slice A k ca,.slice C m cb])) (hg:w.grownBy w' v.ownBlock) (ho:v'.ownBlock=v.ownBlock∨v'.ownBlock=some w.heap.size) (h:OwnG w' B 75 3 (fun _=>True) v' (l.length+1) (xs ++ [.int .i64 s,.slice A k ca,.slice C m cb])):OwnQ w' B v' (l ++ [q]):=by
 have keep:∀ {u:Value} {r:Rat},Nr w u r→BlN (fun b=>v.ownBlock≠some b) u→Nr w' u r∧BlN (fun b=>v'.ownBlock≠some b) u:=fun {u r} hn hbl=>by
  refine⟨hn.keepB (hn.old.both hbl) (fun b hb=>hg.block b hb.1 (fun e=>hb.2 e.symm)),?_⟩
  rcases ho with e|e
  ·rw [e];exact hbl
  ·rw [e];exact hn.old.imp (fun b hb e=>by injection e with e;omega)
 refine⟨_,by rw [List.length_append];exact h,fun i r hr=>?_⟩;have hxl:=hown.1
 rcases Nat.lt_or_ge i l.length with hi|hi
 ·rw [List.getElem?_append_left hi] at hr
  obtain⟨s1,A1,k1,ca1,C1,m1,cb1,x0,x1,x2,hn,hbl⟩:=hx i r hr;obtain⟨n1,n2⟩:=keep hn hbl;exact⟨s1,A1,k1,ca1,C1,m1,cb1,by rw [List.getElem?_append_left (by omega)];exact x0,by rw [List.getElem?_append_left (by omega)];exact x1,by rw [List.getElem?_append_left (by omega)];exact x2,n1,n2⟩
 ·rw [List.getElem?_append_right hi] at hr
  have hi0:i - l.length=0:=by
   rcases Nat.eq_zero_or_pos (i - l.length) with e|e
   ·exact e
   ·obtain⟨d,hd⟩:∃d,i - l.length=d+1:=⟨i - l.length - 1,by omega⟩
    rw [hd] at hr;simp at hr
  rw [hi0] at hr;obtain rfl:q=r:=Option.some.inj hr;obtain rfl:i=l.length:=by omega
  obtain⟨n1,n2⟩:=keep hq hb;refine⟨s,A,k,ca,C,m,cb,?_,?_,?_,n1,n2⟩
  ·rw [List.getElem?_append_right (by omega),show l.length*3 - xs.length=0 by omega];rfl
  ·rw [List.getElem?_append_right (by omega),show l.length*3+1 - xs.length=1 by omega];rfl
  ·rw [List.getElem?_append_right (by omega),show l.length*3+2 - xs.length=2 by omega];rfl
end Go.Proofs.YtoefieefcndlkaaGreatDoor
set_option linter.unusedVariables false
set_option maxRecDepth 100000
set_option maxHeartbeats 64000000
namespace Go.Proofs.YtoefieefcndlkaaGreatDoor
open Go.RowKit
set_option linter.unusedSimpArgs false
theorem PlR.at_ {w:World} {A:Option Addr} {n c:Nat} {l:List Rat} (h:PlR w (.slice A n c) l) {i:Nat} (hi:i<n):∃b o q,A=some ⟨b,o,none⟩∧l[i]?=some q∧TriR w b (o+i*3) q:=by
 obtain⟨A',c',e,hc,h3⟩:=h
 injection e with e1 e2 e3
 subst e1 e2 e3
 rcases h3 with ⟨-,h4⟩|⟨b,o,h4,h5⟩
 ·subst h4;cases hi
 ·exact⟨b,o,l[i]'hi,h4,List.getElem?_eq_getElem hi,h5 i _ (List.getElem?_eq_getElem hi)⟩
theorem own_lit0 (w:World) (B:Nat) (hB:B≤w.heap.size):OwnG (w.alloc (.cells #[] 75)) B 75 3 (fun _=>True) (.slice (some ⟨w.heap.size,0,none⟩) 0 0) 0 []:=
 ⟨rfl,.inr ⟨w.heap.size,0,#[],rfl,hB,heap_alloc_new w _,Nat.le_refl _,by unfold maxLen;omega,rfl,rfl,fun c hc=>by cases hc⟩⟩
theorem run_append0 (w:World) (ty:TypeId) (a:Addr) (A:Option Addr) (c:Nat):(Builtin.append_ #[26,26] ty #[.slice (some a) 0 0,.slice A 0 c]).run Tryz.prog w=.ok (.slice (some a) 0 0) w:=by
 obtain⟨i,hi,-,-,-⟩:=elRf.inf;have ht:=elRf.und
 cases A <;> simp [Builtin.append_,run_underlying ht,sizeOf,typeInfo,hi,Builtin.lenOf,Builtin.firstCells,storeCells,loadCells,loadCellsFrom]
theorem app_lit {w w0:World} {A:Option Addr} {k cap:Nat} {l:List Rat} (ty:TypeId) (h:PlR w0 (.slice A k cap) l) (he:Ext (w0.alloc (.cells #[] 75)) w) (hl:l.length≤1000000):∃v' w',(Builtin.append_ #[26,26] ty #[.slice (some ⟨w0.heap.size,0,none⟩) 0 0,.slice A k cap]).run Tryz.prog w=.ok v' w'∧PlR w' v' l∧Ext w0 w':=by
 have h':=h;obtain⟨A',c',e,hc,h3⟩:=h
 injection e with e1 e2 e3
 subst e1 e2 e3;have e0:Ext w0 w:=ak (ab _ _) he
 rcases Nat.eq_zero_or_pos l.length with h0|h0
 ·rw [h0]
  refine⟨_,w,run_append0 w ty _ _ _,?_,e0⟩;rw [List.length_eq_zero_iff.1 h0];exact⟨_,0,rfl,Nat.le_refl _,.inr ⟨_,0,rfl,fun i q hq=>by cases hq⟩⟩
 ·rcases h3 with ⟨-,h4⟩|⟨b,o,rfl,ht⟩
  ·rw [h4] at h0;cases h0
  have own:=(own_lit0 w0 w0.heap.size (Nat.le_refl _)).mono he
  have hcell:∀j,j<l.length*3→∃u,w.cell? ⟨b,o+j,none⟩=some u∧u.oneCell'=true:=fun j hj=>by
   have hi:j / 3<l.length:=by omega
   obtain⟨s,A1,k1,ca,B1,m,cb,c0,c1,c2,-⟩:=(ht (j / 3) (l[j / 3]'hi) (List.getElem?_eq_getElem hi)).mono e0
   rcases(show o+j=o+j / 3*3∨o+j=o+j / 3*3+1∨o+j=o+j / 3*3+2 by omega) with e|e|e
   ·exact⟨_,by rw [e];exact c0,rfl⟩
   ·exact⟨_,by rw [e];exact c1,rfl⟩
   ·exact⟨_,by rw [e];exact c2,rfl⟩
  obtain⟨v',w',hr,ho,hg,-⟩:=run_appendG2 elRf (C:=fun _=>True) (fun _ _=>trivial) w w0.heap.size ty _ 0 [] own ⟨b,o,none⟩ l.length cap (cellsL w b o (l.length*3)) (by simp [cellsL])
   (fun j u hu=>by
    have hj:=cellsL_lt hu;obtain⟨u',h1,-⟩:=hcell j hj;rw [cellsL_get hj,h1] at hu;rw [Addr.add_mid,h1,←Option.some.inj hu];rfl)
   (fun u hu=>by
    obtain⟨j,hj⟩:=List.mem_iff_getElem?.1 hu;have hj':=cellsL_lt hj;obtain⟨u',h1,h2⟩:=hcell j hj';rw [cellsL_get hj',h1] at hj;rw [←Option.some.inj hj];exact h2)
   (fun _ _=>trivial) h0 (by omega) (by unfold maxLen;omega) e0.size
  have e1:Ext w0 w':=ext_grownG e0 own hg;rw [Nat.zero_add,List.nil_append] at ho;refine⟨v',w',hr,plr_of_own ho (fun i q hq=>?_),e1⟩;obtain⟨s,A1,k1,ca,B1,m,cb,c0,c1,c2,hn⟩:=(ht i q hq).mono e0;obtain⟨-,-,-,-,-,-,-,-,-,-,hn0⟩:=ht i q hq;have hi':i<l.length:=(List.getElem?_eq_some_iff.1 hq).1
  have g:∀(r:Nat) (u:Value),r<3→w.cell? ⟨b,o+i*3+r,none⟩=some u→(cellsL w b o (l.length*3))[i*3+r]?=some u:=fun r u hr hu=>by
   rw [cellsL_get (by omega),←Nat.add_assoc,hu];rfl
  refine⟨s,A1,k1,ca,B1,m,cb,g 0 _ (by decide) c0,g 1 _ (by decide) c1,g 2 _ (by decide) c2,?_⟩;obtain⟨s2,A2,k2,cb2,B2,m2,cc2,d0,d1,d2,hn2⟩:=ht i q hq;have f0:=am e0 d0;have f1:=am e0 d1;have f2:=am e0 d2;rw [c0] at f0;rw [c1] at f1;rw [c2] at f2
  cases f0
  cases f1
  cases f2
  exact hn2.mono e1
theorem wpList_applit {ops:Array Oper} {rest:List Oper} {o:Oper} {a:Act} {w w0:World} {Q:Exit→Act→World→Prop} {A:Option Addr} {k cap:Nat} {l:List Rat} (hgd:o.guard=none) (s x:Operand) (ho:o.op=.call { callee:=.builtin .append,args:=#[s,x],argTypes:=#[26,26] }) (hs:a.eval s=.slice (some ⟨w0.heap.size,0,none⟩) 0 0) (hx:a.eval x=.slice A k cap) (h:PlR w0 (.slice A k cap) l) (he:Ext (w0.alloc (.cells #[] 75)) w) (hl:l.length≤1000000) (hK:∀v' w',PlR w' v' l→Ext w0 w'→wpList Tryz.prog ops Q rest (a.put o.dst v') w'):wpList Tryz.prog ops Q (o :: rest) a w:=by
 refine wpList_plain hgd fun K hK'=>?_;obtain⟨v',w',hr,h2,h3⟩:=app_lit o.type h he hl;unfold Oper.wp execOp
 simp only [ho,resolve,invoke,builtin,Sem.run_bind,Sem.run_pure,Result.andThen_ok,List.map_toArray,List.map_cons,List.map_nil,hs,hx,hr]
 exact hK' _ _ (hK v' w' h2 h3)
theorem trim_n (v:Value) (l:List Rat) (hl:l.length≤1000000) (w:World) (h:PlR w v l):Calls Tryz.prog 89 #[v] w fun e w'=>∃v',e=.returned v'∧PlR w' v' (trimF l)∧Ext w w':=by
 obtain⟨n,hn⟩:∃n,l.length=n:=⟨_,rfl⟩;obtain⟨A,cap,rfl⟩:=h.form;rw [hn] at h ⊢;have HP:=ZZ h;have HL:=ZZ hl;have HN:=ZZ hn;have HC:=ZZ (show n≤cap by obtain⟨A',c',e,hc,-⟩:=h;injection e with e1 e2 e3;omega);have hun:undef=.tuple #[]:=rfl;clear h hl hn
 go_enter Tryz.func89,Tryz.ntmps89
 go_wp2_with fail
 go_loopg [3] n (fun k i wr=>Hid (k≤n)∧i=.int .i64 (k:Int)∧Hid (trimF (l.take k)=trimF l)∧Hid (Ext w wr))
 case atStart=>exact⟨ZZ (Nat.le_refl _),rfl,ZZ (by rw [List.take_of_length_le (Nat.le_of_eq HN.out)]),ZZ (ae _)⟩
 case round=>
  obtain⟨HK,rfl,HT,HE⟩:=hrel;rename World=>WR
  rcases Nat.eq_zero_or_pos gk with hz|hz
  ·subst hz
   have q1:decide ((0:Int)<((0:Nat):Int))=false:=rfl;have HP0:=ZZ ((HP.out.mono HE.out).take (Nat.zero_le _))
   go_wp2_with (at_builtin;refine wpList_applit rfl _ _ rfl rfl rfl HP0.out (ae _) (by simp) ?_;intro v' w7 hp7 he7)
   go_ret;have e0:l.take 0=trimF l:=by rw [←HT.out];rfl
   rw [e0] at hp7;exact⟨_,rfl,hp7,ak HE.out he7⟩
  ·obtain⟨k,rfl⟩:∃k,gk=k+1:=⟨gk - 1,by omega⟩
   clear hz;have hk:=HK.out;obtain⟨b,o,q,rfl,hq,htri⟩:=HP.out.at_ (show k<n by omega);obtain⟨s,A1,k1,ca1,B1,l1,cb1,c0,c1,c2,hn⟩:=htri.mono HE.out;obtain⟨c,hcs⟩:∃c,q.num.sign=c:=⟨_,rfl⟩;have HCS:=ZZ hcs;have HQ:=ZZ hq;have HNR:=ZZ hn;have q1:decide ((0:Int)<((k+1:Nat):Int))=true:=decide_eq_true (by omega);have q2:decide ((0:Int)<(k:Int)+1)=true:=decide_eq_true (by omega)
   have q3:IntKind.i64.wrap ((k:Int)+1 - 1)=(k:Int):=by
    have h1:=HL.out;have h2:=HN.out;rw [show (k:Int)+1 - 1=k by omega];exact IntWalk.i64_in _ (by omega)
   have q3':IntKind.i64.wrap (k:Int)=(k:Int):=by
    have h1:=HL.out;have h2:=HN.out;exact IntWalk.i64_in _ (by omega)
   have q4:(k:Int)<(n:Int):=by omega
   have q5:(0:Int)≤(k:Int):=by omega
   have q6:(k:Int)+1≤(cap:Int):=by have:=HC.out;omega
   have q7:(0:Int)≤(k:Int)+1:=by omega
   clear hcs hq hn htri hk;go_wp2_with fail;refine(sign_n _ q c HCS.out _ HNR.out).mono ?_;rintro e w5 ⟨rfl,k5⟩;have K5:=ZZ (ak HE.out k5);clear c0 c1 c2 k5
   by_cases hc0:c=0
   ·subst hc0
    have z0:((0:Int) == 0)=true:=rfl;have HZ:=ZZ ((num_zero_iff HCS.out).1 rfl);go_wp2_with fail
    go_roundg k
    case measure=>omega
    case rel=>exact⟨ZZ (by have:=HK.out;omega),rfl,ZZ (by have h1:=HQ.out;rw [HZ.out] at h1;rw [←trim_take_zero h1];exact HT.out),ZZ K5.out⟩
   ·have z0:(c == 0)=false:=beq_eq_false_iff_ne.2 hc0
    have HZ:=ZZ (fun e:q=0=>hc0 ((num_zero_iff HCS.out).2 e));have HPK:=ZZ ((HP.out.mono K5.out).take (show k+1≤l.length by have h1:=HN.out;have h2:=HK.out;omega));clear hc0
    go_wp2_with (at_builtin;refine wpList_applit rfl _ _ rfl rfl rfl HPK.out (ae _) (by have h1:=HL.out;simp;omega) ?_;intro v' w7 hp7 he7)
    go_ret;rw [show l.take (k+1)=trimF l by rw [←HT.out];exact(trim_take_ne HQ.out HZ.out).symm] at hp7
    exact⟨_,rfl,hp7,ak K5.out he7⟩
theorem deg_n (v:Value) (l:List Rat) (hl:l.length≤1000000) (w:World) (h:PlR w v l) (d:Int) (hd:((trimF l).length:Int) - 1=d):Calls Tryz.prog 33 #[v] w fun e w'=>e=.returned (.int .i64 d)∧Ext w w':=by
 have HP:=ZZ h;have HL:=ZZ hl;have HD:=ZZ hd;have HT:=ZZ (trim_le l);clear h hl hd
 go_enter Tryz.func33,Tryz.ntmps33
 go_wp2_with fail;refine(trim_n _ l HL.out _ HP.out).mono ?_
 rintro e w3 ⟨v3,rfl,h3,k3⟩;obtain⟨n,hn⟩:∃n,(trimF l).length=n:=⟨_,rfl⟩;obtain⟨A,cap,e3⟩:=h3.form;rw [hn] at e3;subst e3;have HN:=ZZ hn;have K3:=ZZ k3
 have q3:IntKind.i64.wrap ((n:Int) - 1)=d:=by
  have h1:=HL.out;have h2:=HT.out;have h3:=HD.out;rw [hn] at h2 h3;rw [h3];exact IntWalk.i64_in _ (by omega)
 clear h3 k3 hn;go_wp2_with fail;go_ret;exact⟨rfl,K3.out⟩
end Go.Proofs.YtoefieefcndlkaaGreatDoor
