/- List: the numbers of a list of texts. Printed by gen_yu.py. -/
import Derived.Test.YtkoaakefgacokaaGreatDoorGYt
import Derived.Test.YtkoaakefgacokaaGreatDoorGTg
import Derived.Test.YtkoaakefgacokaaGreatDoorGRo
import Derived.Test.YtkoaakefgacokaaGreatDoorGYj
set_option linter.unusedVariables false
set_option linter.unusedSimpArgs false
set_option maxRecDepth 100000
set_option maxHeartbeats 64000000
namespace Go.Proofs.YtkoaakefgacokaaGreatDoor
open Go.RowKit
theorem info_refn:(Tryz.prog.info? 59).map (fun i=>(i.zero,i.size,i.bytes))=some (some (.agg #[.int .i64 0,.slice none 0 0,.slice none 0 0]),3,56):=by kernel_rfl
theorem elRf:ElT Tryz.prog 28 59 3 56 (.agg #[.int .i64 0,.slice none 0 0,.slice none 0 0]):=
 ⟨Tryz.underlying28,by obtain⟨i,hi,h1,h2,h3⟩:=info_parts info_refn;exact⟨i,hi,h1,h2,h3⟩,rfl,by decide⟩
theorem elNm:ElT Tryz.prog 27 38 3 56 (.agg #[.bool false,.slice none 0 0,.slice none 0 0]):=
 ⟨Tryz.underlying27,by obtain⟨i,hi,h1,h2,h3⟩:=info_parts info_num;exact⟨i,hi,h1,h2,h3⟩,rfl,by decide⟩
theorem zero_rf:∀c ∈ (Value.agg #[.int .i64 0,.slice none 0 0,.slice none 0 0]).cells.toList,NotU c:=by
 intro c hc z e;rw [show (Value.agg #[.int .i64 0,.slice none 0 0,.slice none 0 0]).cells.toList=[.int .i64 0,.slice none 0 0,.slice none 0 0] from rfl] at hc;subst e
 simp at hc
theorem zero_nm:∀c ∈ (Value.agg #[.bool false,.slice none 0 0,.slice none 0 0]).cells.toList,NotU c:=by
 intro c hc z e;rw [show (Value.agg #[.bool false,.slice none 0 0,.slice none 0 0]).cells.toList=[.bool false,.slice none 0 0,.slice none 0 0] from rfl] at hc;subst e
 simp at hc
structure LiS (w0 W:World) (va vx:Value) (l r:List Rat) (ks:List (Nat × Obj)) (ns ms:List (Value × Rat)):Prop where
 ext:Ext w0 W
 oa:OwnP W w0.heap.size va l
 ox:∃ys,OwnG W w0.heap.size 59 3 NotU vx r.length ys∧∀i q,r[i]?=some q→∃s A k ca C m cb,ys[i*3]?=some (.int .i64 s)∧ys[i*3+1]?=some (.slice A k ca)∧ys[i*3+2]?=some (.slice C m cb)∧Nr W (.agg #[.int .i64 s,.slice A k ca,.slice C m cb]) q∧BlN (fun b=>vx.ownBlock≠some b∧va.ownBlock≠some b) (.agg #[.int .i64 s,.slice A k ca,.slice C m cb])
 mm:∀y ∈ ms,Nr W y.1 y.2∧BlN (fun b=>vx.ownBlock≠some b∧va.ownBlock≠some b) y.1
 dj:∀r,va.ownBlock=some r→vx.ownBlock≠some r
 nn:∀y ∈ ns,Nm W y.1 y.2
 keep:∀p ∈ ks,W.heap[p.1]?=some p.2∧(∀r,va.ownBlock=some r→r≠p.1)∧∀r,vx.ownBlock=some r→r≠p.1
theorem OwnP.lt' {w:World} {B:Nat} {v:Value} {l:List Rat} (h:OwnP w B v l):∀k,v.ownBlock=some k→B≤k∧k<w.heap.size:=by
 obtain⟨xs,h1,-⟩:=h;exact OwnG.lt h1
theorem LiS.start (w0:World):LiS w0 w0 (.slice none 0 0) (.slice none 0 0) [] [] [] [] []:=
 ⟨ae _,OwnP.nil _ _,⟨[],OwnG.nil _ _ _ _ _,fun i q h=>by cases h⟩,(fun p hp=>by cases hp),(fun r h=>by cases h),(fun p hp=>by cases hp),(fun p hp=>by cases hp)⟩
theorem LiS.mono {w0 W W':World} {va vx:Value} {l r:List Rat} {ks:List (Nat × Obj)} {ns ms:List (Value × Rat)} (h:LiS w0 W va vx l r ks ns ms) (k:Ext W W'):LiS w0 W' va vx l r ks ns ms:=
 ⟨al h.ext k,h.oa.mono k,by
  obtain⟨ys,hy,hz⟩:=h.ox;refine⟨ys,hy.mono k,fun i q hq=>?_⟩;obtain⟨s,A,n,ca,C,m,cb,x0,x1,x2,hn,hb⟩:=hz i q hq
  exact⟨s,A,n,ca,C,m,cb,x0,x1,x2,hn.mono k,hb⟩,(fun y hy=>⟨(h.mm y hy).1.mono k,(h.mm y hy).2⟩),h.dj,(fun y hy=>(h.nn y hy).mono k),fun p hp=>by
  obtain⟨h1,h2,h3⟩:=h.keep p hp;exact⟨(k.block _ (Array.getElem?_eq_some_iff.1 h1).1).trans h1,h2,h3⟩⟩
theorem LiS.alloc {w0 W:World} {va vx:Value} {l r:List Rat} {ks:List (Nat × Obj)} {ns ms:List (Value × Rat)} (h:LiS w0 W va vx l r ks ns ms) (o:Obj):LiS w0 (W.alloc o) va vx l r ((W.heap.size,o) :: ks) ns ms:=by
 have hm:=h.mono (ab W o);refine⟨hm.ext,hm.oa,hm.ox,hm.mm,hm.dj,hm.nn,fun p hp=>?_⟩
 rcases List.mem_cons.1 hp with rfl|hp
 ·refine⟨heap_alloc_new _ _,fun r hr e=>?_,fun r hr e=>?_⟩
  ·have:=(h.oa.lt' r hr).2
   dsimp only at e
   omega
  ·obtain⟨ys,hy,-⟩:=h.ox
   have:=(hy.lt r hr).2
   dsimp only at e
   omega
 ·exact hm.keep p hp
theorem LiS.drop {w0 W:World} {va vx:Value} {l r:List Rat} {ks:List (Nat × Obj)} {ns ms:List (Value × Rat)} (h:LiS w0 W va vx l r ks ns ms):LiS w0 W va vx l r [] [] []:=
 ⟨h.ext,h.oa,h.ox,(fun p hp=>by cases hp),h.dj,(fun p hp=>by cases hp),(fun p hp=>by cases hp)⟩
theorem LiS.num {w0 W:World} {va vx v:Value} {l r:List Rat} {ks:List (Nat × Obj)} {ns ms:List (Value × Rat)} {q:Rat} (h:LiS w0 W va vx l r ks ns ms) (hq:Nm W v q):LiS w0 W va vx l r ks ((v,q) :: ns) ms:=
 ⟨h.ext,h.oa,h.ox,h.mm,h.dj,(fun y hy=>by
  rcases List.mem_cons.1 hy with rfl|hy
  ·exact hq
  ·exact h.nn y hy),h.keep⟩
theorem LiS.refn {w0 W:World} {va vx v:Value} {l r:List Rat} {ks:List (Nat × Obj)} {ns ms:List (Value × Rat)} {q:Rat} (h:LiS w0 W va vx l r ks ns ms) (hq:Nr W v q) (hb:BlN (fun b=>vx.ownBlock≠some b∧va.ownBlock≠some b) v):LiS w0 W va vx l r ks ns ((v,q) :: ms):=
 ⟨h.ext,h.oa,h.ox,(fun y hy=>by
  rcases List.mem_cons.1 hy with rfl|hy
  ·exact⟨hq,hb⟩
  ·exact h.mm y hy),h.dj,h.nn,h.keep⟩
theorem LiS.off {w0 W:World} {va vx v:Value} {l r:List Rat} {ks:List (Nat × Obj)} {ns ms:List (Value × Rat)} (h:LiS w0 W va vx l r ks ns ms) (hb:BlN (W.heap.size≤·) v):BlN (fun b=>vx.ownBlock≠some b∧va.ownBlock≠some b) v:=by
 obtain⟨ys,hy,-⟩:=h.ox;exact hb.imp fun b hb=>⟨fun e=>by have:=(hy.lt b e).2;omega,fun e=>by have:=(h.oa.lt' b e).2;omega⟩
theorem keep_ref {W W':World} {v v' vo u:Value} {q:Rat} (hg:W.grownBy W' v.ownBlock) (hb:v'.ownBlock=v.ownBlock∨v'.ownBlock=some W.heap.size) (hn:Nr W u q) (hu:BlN (fun b=>vo.ownBlock≠some b∧v.ownBlock≠some b) u):Nr W' u q∧BlN (fun b=>vo.ownBlock≠some b∧v'.ownBlock≠some b) u:=by
 refine⟨hn.keepB (hn.old.both hu) (fun b hb=>hg.block b hb.1 (fun e=>hb.2.2 e.symm)),(hn.old.both hu).imp fun b h=>⟨h.2.1,fun e=>?_⟩⟩
 rcases hb with hb|hb
 ·exact h.2.2 (hb ▸ e)
 ·rw [hb] at e
  have:=Option.some.inj e
  have:=h.1
  omega
theorem LiS.cells {w0 W:World} {va vx:Value} {l r:List Rat} {ks:List (Nat × Obj)} {ns ms:List (Value × Rat)} {a b c d e f:Value} {T U:TypeId} (h:LiS w0 W va vx l r ks ns ms) (g7 g9:Nat) (h7:(g7,.cells #[a,b,c] T) ∈ ks) (h9:(g9,.cells #[d,e,f] U) ∈ ks):W.cell? ⟨g7,0,none⟩=some a∧W.cell? ⟨g7,1,none⟩=some b∧W.cell? ⟨g7,2,none⟩=some c∧W.cell? ⟨g9,0,none⟩=some d∧W.cell? ⟨g9,1,none⟩=some e∧W.cell? ⟨g9,2,none⟩=some f:=by
 obtain⟨x0,x1,x2,-⟩:=aj (h.keep _ h7).1;obtain⟨y0,y1,y2,-⟩:=aj (h.keep _ h9).1;exact⟨x0,x1,x2,y0,y1,y2⟩
theorem row_cells3 {W:World} {g:Nat} {a b c:Value} {T:TypeId} (h:W.heap[g]?=some (.cells #[a,b,c] T (0,0))):∀(j:Nat) (u:Value),[a,b,c][j]?=some u→W.cell? ((⟨g,0,none⟩:Addr).add j)=some u:=by
 intro j u hu;obtain⟨x0,x1,x2,-⟩:=aj h
 match j,hu with
 | 0,hu=>obtain rfl:=Option.some.inj hu;exact x0
 | 1,hu=>obtain rfl:=Option.some.inj hu;exact x1
 | 2,hu=>obtain rfl:=Option.some.inj hu;exact x2
theorem keep_grown {W W':World} {v v' vo:Value} {ks:List (Nat × Obj)} (hg:W.grownBy W' v.ownBlock) (hb:v'.ownBlock=v.ownBlock∨v'.ownBlock=some W.heap.size) (p:Nat × Obj) (h1:W.heap[p.1]?=some p.2) (h2:∀r,v.ownBlock=some r→r≠p.1):W'.heap[p.1]?=some p.2∧∀r,v'.ownBlock=some r→r≠p.1:=by
 have hlt:=(Array.getElem?_eq_some_iff.1 h1).1;refine⟨(hg.block p.1 hlt (fun e=>h2 _ e.symm rfl)).trans h1,fun r hr e=>?_⟩
 rcases hb with hb|hb
 ·rw [hr] at hb;exact h2 r hb.symm e
 ·rw [hr] at hb
  have:=Option.some.inj hb
  omega
theorem LiS.stepA {w0 W:World} {va vx:Value} {l r:List Rat} {ks:List (Nat × Obj)} {ns ms:List (Value × Rat)} {ty:TypeId} {c g:Nat} {q:Rat} {s:Bool} {A C:Option Addr} {k ca m cb:Nat} (h:LiS w0 W va vx l r ks ns ms) (hg:(g,.cells #[.bool s,.slice A k ca,.slice C m cb] 38) ∈ ks) (hqn:(.agg #[.bool s,.slice A k ca,.slice C m cb],q) ∈ ns) (hl:l.length≤1000000):∃v' W',(Builtin.append_ #[27,27] ty #[va,.slice (some ⟨g,0,none⟩) 1 c]).run Tryz.prog W=.ok v' W'∧LiS w0 W' v' vx (l ++ [q]) r ks ns ms:=by
 obtain⟨xs,hown,hx⟩:=h.oa;obtain⟨ys,hy,hz⟩:=h.ox;obtain⟨v',W',hr,h2,h3,h4⟩:=run_appendG2 elNm zero_nm W w0.heap.size ty va l.length xs hown ⟨g,0,none⟩ 1 c [.bool s,.slice A k ca,.slice C m cb] rfl (row_cells3 (h.keep _ hg).1) (by intro u hu;simp at hu;rcases hu with rfl|rfl|rfl <;> rfl) (by intro u hu z he;subst he;simp at hu) (by decide) (by omega) (by unfold maxLen;omega) h.ext.size;refine⟨v',W',hr,ext_grownG h.ext hown h3,OwnP.snoc hown hx (h.nn _ hqn) h3 h2,⟨ys,hy.other fun r hr=>h3.block r (hy.lt r hr).2 (fun e=>h.dj r e.symm hr),fun i q hq=>?_⟩,(fun y hy1=>keep_ref h3 h4 (h.mm y hy1).1 (h.mm y hy1).2),fun r h5 h6=>?_,fun y hy1=>?_,fun p hp=>?_⟩
 ·obtain⟨s1,A1,n1,ca1,C1,m1,cb1,x0,x1,x2,hn,hb⟩:=hz i q hq
  obtain⟨n1',n2'⟩:=keep_ref h3 h4 hn hb;exact⟨s1,A1,n1,ca1,C1,m1,cb1,x0,x1,x2,n1',n2'⟩
 ·rcases h4 with h4|h4
  ·rw [h5] at h4;exact h.dj r h4.symm h6
  ·rw [h5] at h4
   have:=(hy.lt r h6).2
   have:=Option.some.inj h4
   omega
 ·exact(h.nn y hy1).grownG hown (fun z hz=>hz z rfl) h3
 ·obtain⟨k1,k2,k3⟩:=h.keep p hp
  obtain⟨m1,m2⟩:=keep_grown (vo:=vx) (ks:=ks) h3 h4 p k1 k2;exact⟨m1,m2,k3⟩
theorem LiS.stepX {w0 W:World} {va vx:Value} {l r:List Rat} {ks:List (Nat × Obj)} {ns ms:List (Value × Rat)} {ty:TypeId} {c g:Nat} {q:Rat} {s:Int} {A C:Option Addr} {k ca m cb:Nat} (h:LiS w0 W va vx l r ks ns ms) (hg:(g,.cells #[.int .i64 s,.slice A k ca,.slice C m cb] 59) ∈ ks) (hqm:(.agg #[.int .i64 s,.slice A k ca,.slice C m cb],q) ∈ ms) (hn:r.length≤1000000):∃v' W',(Builtin.append_ #[28,28] ty #[vx,.slice (some ⟨g,0,none⟩) 1 c]).run Tryz.prog W=.ok v' W'∧LiS w0 W' va v' l (r ++ [q]) ks ns ms:=by
 obtain⟨ys,hy,hz⟩:=h.ox;obtain⟨v',W',hr,h2,h3,h4⟩:=run_appendG2 elRf zero_rf W w0.heap.size ty vx r.length ys hy ⟨g,0,none⟩ 1 c [.int .i64 s,.slice A k ca,.slice C m cb] rfl (row_cells3 (h.keep _ hg).1) (by intro u hu;simp at hu;rcases hu with rfl|rfl|rfl <;> rfl) (by intro u hu z he;subst he;simp at hu) (by decide) (by omega) (by unfold maxLen;omega) h.ext.size;obtain⟨xs,hown,hx⟩:=h.oa;refine⟨v',W',hr,ext_grownG h.ext hy h3,⟨xs,OwnG.other hown fun r hr=>h3.block r (OwnG.lt hown r hr).2 (fun e=>h.dj r hr e.symm),fun i q hi=>?_⟩,⟨_,by rw [List.length_append];exact h2,fun i q' hi=>?_⟩,(fun y hy1=>?_),fun r h5 h6=>?_,fun y hy1=>?_,fun p hp=>?_⟩
 ·obtain⟨s1,A1,k1,ca1,C1,m1,cb1,x0,x1,x2,hn⟩:=hx i q hi
  exact⟨s1,A1,k1,ca1,C1,m1,cb1,x0,x1,x2,hn.grownG hy (fun z hz=>hz z rfl) h3⟩
 ·have hyl:=hy.1
  have sw:∀ {u:Value} {p:Rat},Nr W u p→BlN (fun b=>vx.ownBlock≠some b∧va.ownBlock≠some b) u→Nr W' u p∧BlN (fun b=>v'.ownBlock≠some b∧va.ownBlock≠some b) u:=fun hn hb=>by
   obtain⟨e1,e2⟩:=keep_ref (vo:=va) h3 h4 hn (hb.imp fun b h=>⟨h.2,h.1⟩);exact⟨e1,e2.imp fun b h=>⟨h.2,h.1⟩⟩
  rcases Nat.lt_or_ge i r.length with hlt|hge
  ·rw [List.getElem?_append_left hlt] at hi
   obtain⟨s1,A1,k1,ca1,C1,m1,cb1,x0,x1,x2,hn',hb'⟩:=hz i q' hi;obtain⟨n1',n2'⟩:=sw hn' hb';exact⟨s1,A1,k1,ca1,C1,m1,cb1,by rw [List.getElem?_append_left (by omega)];exact x0,by rw [List.getElem?_append_left (by omega)];exact x1,by rw [List.getElem?_append_left (by omega)];exact x2,n1',n2'⟩
  ·rw [List.getElem?_append_right hge] at hi
   have hi0:i - r.length=0:=by
    rcases Nat.eq_zero_or_pos (i - r.length) with e|e
    ·exact e
    ·obtain⟨d,hd⟩:∃d,i - r.length=d+1:=⟨i - r.length - 1,by omega⟩
     rw [hd] at hi;simp at hi
   rw [hi0] at hi;obtain rfl:q=q':=Option.some.inj hi;obtain rfl:i=r.length:=by omega
   obtain⟨n1',n2'⟩:=sw (h.mm _ hqm).1 (h.mm _ hqm).2;refine⟨s,A,k,ca,C,m,cb,?_,?_,?_,n1',n2'⟩
   ·rw [List.getElem?_append_right (by omega),show r.length*3 - ys.length=0 by omega];rfl
   ·rw [List.getElem?_append_right (by omega),show r.length*3+1 - ys.length=1 by omega];rfl
   ·rw [List.getElem?_append_right (by omega),show r.length*3+2 - ys.length=2 by omega];rfl
 ·obtain⟨e1,e2⟩:=keep_ref (vo:=va) h3 h4 (h.mm y hy1).1 ((h.mm y hy1).2.imp fun b h=>⟨h.2,h.1⟩)
  exact⟨e1,e2.imp fun b h=>⟨h.2,h.1⟩⟩
 ·rcases h4 with h4|h4
  ·rw [h6] at h4;exact h.dj r h5 h4.symm
  ·rw [h6] at h4
   have:=(OwnG.lt hown r h5).2
   have:=Option.some.inj h4
   omega
 ·exact(h.nn y hy1).grownG hy (fun z hz=>hz z rfl) h3
 ·obtain⟨k1,k2,k3⟩:=h.keep p hp
  obtain⟨m1,m2⟩:=keep_grown (vo:=va) (ks:=ks) h3 h4 p k1 k3;exact⟨m1,k2,m2⟩
def listF (ls:List (List UInt8)):List Rat:=ls.map fun s=>(parseS s).2
theorem list_n (v:Value) (ls:List (List UInt8)) (hn:ls.length≤1000000) (w:World) (h:Stl w v ls):Calls Tryz.prog 6 #[v] w fun e w'=>∃va vx,e=.returned (.tuple #[va,vx])∧Pl w' va (listF ls)∧PlR w' vx (listF ls)∧Ext w w':=by
 obtain⟨A,cap,rfl,-⟩:=h.form;obtain⟨n,hm⟩:∃n,ls.length=n:=⟨_,rfl⟩;rw [hm] at h ⊢;have HNL:=ZZ hm;have HL:=ZZ hn;have HS:=ZZ h;clear hm hn h
 go_enter Tryz.func6,Tryz.ntmps6
 go_wp2_with fail
 go_loopg [6,4,5] n (fun k i va vx wr=>∃j,Hid (j+k=n)∧i=.int .i64 (j:Int)∧Hid (LiS w wr va vx (listF (ls.take j)) (listF (ls.take j)) [] [] []))
 case atStart=>exact⟨0,ZZ (Nat.zero_add _),rfl,ZZ (LiS.start w)⟩
 case round=>
  obtain⟨j,HJ,rfl,HO⟩:=hrel;rename World=>WR
  rcases Nat.eq_zero_or_pos gk with hz|hz
  ·subst hz
   obtain rfl:j=n:=HJ.out;have q1:decide ((j:Int)<(j:Int))=false:=decide_eq_false (Int.lt_irrefl _);go_wp2_with fail;refine bodyPost_ret (v:=.tuple #[u4,u5]) (by simp [results,Tryz.f6]) rfl ?_;have h:=HO.out.oa.pl;rw [List.take_of_length_le (Nat.le_of_eq HNL.out)] at h;obtain⟨ys,hy,hz⟩:=HO.out.ox;have h':=plr_of_own hy (fun i q hq=>by obtain⟨s,A,k,ca,C,m,cb,x0,x1,x2,hn,-⟩:=hz i q hq;exact⟨s,A,k,ca,C,m,cb,x0,x1,x2,hn⟩);rw [List.take_of_length_le (Nat.le_of_eq HNL.out)] at h';exact⟨_,_,rfl,h,h',HO.out.ext⟩
  ·have hjn:j<n:=by have:=HJ.out;omega
   have q1:decide ((j:Int)<(n:Int))=true:=decide_eq_true (by omega);have q4:(j:Int)<(n:Int):=by omega
   have q5:(0:Int)≤(j:Int):=by omega
   rcases HS.out with ⟨-,h5⟩|⟨b,o,cap2,e2,-,hsm,hcs⟩
   ·have:=HNL.out;rw [h5] at this;simp at this;omega
   injection e2 with e2 len_eq cap_eq
   clear len_eq cap_eq;subst e2;obtain⟨s,hs⟩:∃s,ls[j]?=some s:=⟨ls[j]'(by rw [HNL.out];exact hjn),List.getElem?_eq_getElem _⟩;have C0:=ZZ (show ∀W,Ext w W→W.cell? ⟨b,o+j,none⟩=some (.string ⟨s.toArray⟩) from fun W k=>ao k (hcs j s hs));have HSM:=ZZ (show s.length≤9223372036854775807 from Nat.le_trans (hsm s (List.mem_of_getElem? hs)) (by unfold maxLen;decide));obtain⟨q,hq⟩:∃q,(parseS s).2=q:=⟨_,rfl⟩;have HLT:=ZZ (show listF (ls.take (j+1))=listF (ls.take j) ++ [q] from by unfold listF;rw [List.take_add_one,hs,Option.toList_some,List.map_append,←hq];rfl);have HQ:=ZZ hq;have HZ:=ZZ hz;have HJN:=ZZ hjn;have HLJ:=ZZ (show (listF (ls.take j)).length≤1000000 from by unfold listF;rw [List.length_map,List.length_take];have:=HL.out;omega);have HJN2:=HLJ;clear hs hsm hcs hq hz hjn;have c0:=C0.out WR HO.out.ext;go_wp2_with fail;refine(parse_c s HSM.out _).mono ?_;rintro e w1 ⟨v5,rfl,h5,kk5⟩;obtain⟨s5,A5,k5,ca5,B5,l5,cb5,rfl⟩:=h5.form2;rw [HQ.out] at h5;have H1:=ZZ (((HO.out.mono kk5).num h5).alloc (.cells #[.bool s5,.slice A5 k5 ca5,.slice B5 l5 cb5] 38));clear c0 h5 kk5;obtain⟨z1,hz1⟩:∃z,(parseS s).1=z:=⟨_,rfl⟩;rw [hz1]
   go_upto_region 7 with (fail)
   generalize w1.heap.size=g7 at *;generalize w1.alloc (.cells #[.bool s5,.slice A5 k5 ca5,.slice B5 l5 cb5] 38)=W2 at *;have c0:=C0.out W2 H1.out.ext;go_wp2_with fail;refine(parse_f s HSM.out _).mono ?_;rintro e w3 ⟨v6,rfl,h6,kk6,f6⟩;obtain⟨s6,A6,k6,ca6,B6,l6,cb6,rfl,-⟩:=h6.form;rw [HQ.out] at h6;have H0':=ZZ (((H1.out.mono kk6).refn h6 (H1.out.off f6)).alloc (.cells #[.int .i64 s6,.slice A6 k6 ca6,.slice B6 l6 cb6] 59));rw [hz1];clear c0 h6 kk6 f6 hz1 H1
   go_upto_region 8 with (fail)
   generalize w3.heap.size=g9 at *;generalize w3.alloc (.cells #[.int .i64 s6,.slice A6 k6 ca6,.slice B6 l6 cb6] 59)=W4 at *;have H:=ZZ (H0'.out.mono (ac W4));refine wp_region_noPanic ?_;refine wp_region_held_drew (S:=fun W=>W.cell? ⟨g7,0,none⟩=some (.bool s5)∧W.cell? ⟨g7,1,none⟩=some (.slice A5 k5 ca5)∧W.cell? ⟨g7,2,none⟩=some (.slice B5 l5 cb5)∧W.cell? ⟨g9,0,none⟩=some (.int .i64 s6)∧W.cell? ⟨g9,1,none⟩=some (.slice A6 k6 ca6)∧W.cell? ⟨g9,2,none⟩=some (.slice B6 l6 cb6)) (by kernel_rfl) (H.out.cells (T:=38) (U:=59) g7 g9 (by simp) (by simp)) (fun hHeld=>?_);refine take_a 0 33 ?_;refine take_a 1 34 ?_;refine take_a 4 37 ?_;refine take_a 5 38 ?_;refine two_p (i:=2) (j:=6) rfl rfl (by kernel_rfl) (fun K hK=>?sta) (fun K hK=>?stb)
   case sta=>
    go_simp
    have H2:=ZZ (show LiS w (World.drew (World.alloc W4 (.cells #[.bool s5,.slice A5 k5 ca5,.slice B5 l5 cb5] 38))) _ _ _ _ ((W4.heap.size,(.cells #[.bool s5,.slice A5 k5 ca5,.slice B5 l5 cb5] 38)) :: _) _ _ from (H0'.out.alloc (.cells #[.bool s5,.slice A5 k5 ca5,.slice B5 l5 cb5] 38)).mono (ac _));refine hK.out _ _ (H2.out.cells (T:=38) (U:=59) g7 g9 (by simp) (by simp)) (fun hHeld=>?_);clear hK K
    try simp only [Act.put,lyA,lyB,lyC]
    generalize World.drew (World.alloc W4 (.cells #[.bool s5,.slice A5 k5 ca5,.slice B5 l5 cb5] _))=X2 at *;generalize W4.heap.size=gx2 at *;refine two_p (i:=3) (j:=6) rfl rfl (by kernel_rfl) (fun K hK=>?st2a) (fun K hK=>?st2b)
    case st2a=>
     refine(if_pos (show Region.wanted _ _=true from rfl)).mpr ?_;obtain⟨va2,W2,hr2,hl2⟩:=H2.out.stepA (ty:=27) (c:=1) (g:=gx2) (q:=q) (s:=s5) (A:=A5) (k:=k5) (ca:=ca5) (C:=B5) (m:=l5) (cb:=cb5) (by simp) (by simp) HLJ.out;have H23:=ZZ hl2;refine oper_appendG (.tmp 33) (.tmp 35) rfl rfl rfl hr2 ?_;clear hr2 hl2;refine hK.out _ _ (H23.out.cells (T:=38) (U:=59) g7 g9 (by simp) (by simp)) (fun hHeld=>?_);clear hK K
     try simp only [Act.put,lyA,lyB,lyC]
     refine call_p (i:=6) (some 39) rfl rfl (by kernel_rfl) (fun K hK=>?_)
     go_simp
     have H236:=ZZ (show LiS w (World.alloc W2 (.cells #[.int .i64 s6,.slice A6 k6 ca6,.slice B6 l6 cb6] 59)) _ _ _ _ ((W2.heap.size,(.cells #[.int .i64 s6,.slice A6 k6 ca6,.slice B6 l6 cb6] 59)) :: _) _ _ from H23.out.alloc (.cells #[.int .i64 s6,.slice A6 k6 ca6,.slice B6 l6 cb6] 59));refine hK.out _ _ (H236.out.cells (T:=38) (U:=59) g7 g9 (by simp) (by simp)) (fun hHeld=>?_);clear hK K
     try simp only [Act.put,lyA,lyB,lyC]
     generalize World.alloc W2 (.cells #[.int .i64 s6,.slice A6 k6 ca6,.slice B6 l6 cb6] _)=X236 at *;generalize W2.heap.size=gx236 at *;refine call_p (i:=7) (some 40) rfl rfl (by kernel_rfl) (fun K hK=>?_);refine(if_pos (show Region.wanted _ _=true from rfl)).mpr ?_;obtain⟨va236,W236,hr236,hl236⟩:=H236.out.stepX (ty:=28) (c:=1) (g:=gx236) (s:=s6) (A:=A6) (k:=k6) (ca:=ca6) (C:=B6) (m:=l6) (cb:=cb6) (q:=q) (by simp) (by simp) HJN2.out;have H2367:=ZZ hl236;refine oper_appendG (.tmp 37) (.tmp 39) rfl rfl rfl hr236 ?_;clear hr236 hl236;refine hK.out _ _ (H2367.out.cells (T:=38) (U:=59) g7 g9 (by simp) (by simp)) (fun hHeld=>?_);clear hK K
     try simp only [Act.put,lyA,lyB,lyC]
     refine take_a 8 4 ?_;refine take_a 9 5 ?_;refine wpAnyH_done (by kernel_rfl) ?_ _;refine NoPanic.normal ?_;have HF:=ZZ H2367.out.drop;go_wp2_with fail
     go_roundg (gk - 1)
     case measure=>have:=HZ.out;omega
     case rel=>exact⟨j+1,ZZ (by have:=HJ.out;have:=HZ.out;omega),by have h1:=HL.out;have h2:=HNL.out;have h3:=HJN.out;rw [IntWalk.wrap64_in _ ⟨by omega,by omega⟩];rfl,ZZ (by rw [HLT.out];exact HF.out)⟩
    case st2b=>
     go_simp
     have H26:=ZZ (show LiS w (World.alloc X2 (.cells #[.int .i64 s6,.slice A6 k6 ca6,.slice B6 l6 cb6] 59)) _ _ _ _ ((X2.heap.size,(.cells #[.int .i64 s6,.slice A6 k6 ca6,.slice B6 l6 cb6] 59)) :: _) _ _ from H2.out.alloc (.cells #[.int .i64 s6,.slice A6 k6 ca6,.slice B6 l6 cb6] 59));refine hK.out _ _ (H26.out.cells (T:=38) (U:=59) g7 g9 (by simp) (by simp)) (fun hHeld=>?_);clear hK K
     try simp only [Act.put,lyA,lyB,lyC]
     generalize World.alloc X2 (.cells #[.int .i64 s6,.slice A6 k6 ca6,.slice B6 l6 cb6] _)=X26 at *;generalize X2.heap.size=gx26 at *;refine call_p (i:=3) (some 36) rfl rfl (by kernel_rfl) (fun K hK=>?_);refine(if_pos (show Region.wanted _ _=true from rfl)).mpr ?_;obtain⟨va26,W26,hr26,hl26⟩:=H26.out.stepA (ty:=27) (c:=1) (g:=gx2) (q:=q) (s:=s5) (A:=A5) (k:=k5) (ca:=ca5) (C:=B5) (m:=l5) (cb:=cb5) (by simp) (by simp) HLJ.out;have H263:=ZZ hl26;refine oper_appendG (.tmp 33) (.tmp 35) rfl rfl rfl hr26 ?_;clear hr26 hl26;refine hK.out _ _ (H263.out.cells (T:=38) (U:=59) g7 g9 (by simp) (by simp)) (fun hHeld=>?_);clear hK K
     try simp only [Act.put,lyA,lyB,lyC]
     refine call_p (i:=7) (some 40) rfl rfl (by kernel_rfl) (fun K hK=>?_);refine(if_pos (show Region.wanted _ _=true from rfl)).mpr ?_;obtain⟨va263,W263,hr263,hl263⟩:=H263.out.stepX (ty:=28) (c:=1) (g:=gx26) (s:=s6) (A:=A6) (k:=k6) (ca:=ca6) (C:=B6) (m:=l6) (cb:=cb6) (q:=q) (by simp) (by simp) HJN2.out;have H2637:=ZZ hl263;refine oper_appendG (.tmp 37) (.tmp 39) rfl rfl rfl hr263 ?_;clear hr263 hl263;refine hK.out _ _ (H2637.out.cells (T:=38) (U:=59) g7 g9 (by simp) (by simp)) (fun hHeld=>?_);clear hK K
     try simp only [Act.put,lyA,lyB,lyC]
     refine take_a 8 4 ?_;refine take_a 9 5 ?_;refine wpAnyH_done (by kernel_rfl) ?_ _;refine NoPanic.normal ?_;have HF:=ZZ H2637.out.drop;go_wp2_with fail
     go_roundg (gk - 1)
     case measure=>have:=HZ.out;omega
     case rel=>exact⟨j+1,ZZ (by have:=HJ.out;have:=HZ.out;omega),by have h1:=HL.out;have h2:=HNL.out;have h3:=HJN.out;rw [IntWalk.wrap64_in _ ⟨by omega,by omega⟩];rfl,ZZ (by rw [HLT.out];exact HF.out)⟩
   case stb=>
    go_simp
    have H6:=ZZ (show LiS w (World.drew (World.alloc W4 (.cells #[.int .i64 s6,.slice A6 k6 ca6,.slice B6 l6 cb6] 59))) _ _ _ _ ((W4.heap.size,(.cells #[.int .i64 s6,.slice A6 k6 ca6,.slice B6 l6 cb6] 59)) :: _) _ _ from (H0'.out.alloc (.cells #[.int .i64 s6,.slice A6 k6 ca6,.slice B6 l6 cb6] 59)).mono (ac _));refine hK.out _ _ (H6.out.cells (T:=38) (U:=59) g7 g9 (by simp) (by simp)) (fun hHeld=>?_);clear hK K
    try simp only [Act.put,lyA,lyB,lyC]
    generalize World.drew (World.alloc W4 (.cells #[.int .i64 s6,.slice A6 k6 ca6,.slice B6 l6 cb6] _))=X6 at *;generalize W4.heap.size=gx6 at *;refine call_p (i:=2) (some 35) rfl rfl (by kernel_rfl) (fun K hK=>?_)
    go_simp
    have H62:=ZZ (show LiS w (World.alloc X6 (.cells #[.bool s5,.slice A5 k5 ca5,.slice B5 l5 cb5] 38)) _ _ _ _ ((X6.heap.size,(.cells #[.bool s5,.slice A5 k5 ca5,.slice B5 l5 cb5] 38)) :: _) _ _ from H6.out.alloc (.cells #[.bool s5,.slice A5 k5 ca5,.slice B5 l5 cb5] 38));refine hK.out _ _ (H62.out.cells (T:=38) (U:=59) g7 g9 (by simp) (by simp)) (fun hHeld=>?_);clear hK K
    try simp only [Act.put,lyA,lyB,lyC]
    generalize World.alloc X6 (.cells #[.bool s5,.slice A5 k5 ca5,.slice B5 l5 cb5] _)=X62 at *;generalize X6.heap.size=gx62 at *;refine call_p (i:=3) (some 36) rfl rfl (by kernel_rfl) (fun K hK=>?_);refine(if_pos (show Region.wanted _ _=true from rfl)).mpr ?_;obtain⟨va62,W62,hr62,hl62⟩:=H62.out.stepA (ty:=27) (c:=1) (g:=gx62) (q:=q) (s:=s5) (A:=A5) (k:=k5) (ca:=ca5) (C:=B5) (m:=l5) (cb:=cb5) (by simp) (by simp) HLJ.out;have H623:=ZZ hl62;refine oper_appendG (.tmp 33) (.tmp 35) rfl rfl rfl hr62 ?_;clear hr62 hl62;refine hK.out _ _ (H623.out.cells (T:=38) (U:=59) g7 g9 (by simp) (by simp)) (fun hHeld=>?_);clear hK K
    try simp only [Act.put,lyA,lyB,lyC]
    refine call_p (i:=7) (some 40) rfl rfl (by kernel_rfl) (fun K hK=>?_);refine(if_pos (show Region.wanted _ _=true from rfl)).mpr ?_;obtain⟨va623,W623,hr623,hl623⟩:=H623.out.stepX (ty:=28) (c:=1) (g:=gx6) (s:=s6) (A:=A6) (k:=k6) (ca:=ca6) (C:=B6) (m:=l6) (cb:=cb6) (q:=q) (by simp) (by simp) HJN2.out;have H6237:=ZZ hl623;refine oper_appendG (.tmp 37) (.tmp 39) rfl rfl rfl hr623 ?_;clear hr623 hl623;refine hK.out _ _ (H6237.out.cells (T:=38) (U:=59) g7 g9 (by simp) (by simp)) (fun hHeld=>?_);clear hK K
    try simp only [Act.put,lyA,lyB,lyC]
    refine take_a 8 4 ?_;refine take_a 9 5 ?_;refine wpAnyH_done (by kernel_rfl) ?_ _;refine NoPanic.normal ?_;have HF:=ZZ H6237.out.drop;go_wp2_with fail
    go_roundg (gk - 1)
    case measure=>have:=HZ.out;omega
    case rel=>exact⟨j+1,ZZ (by have:=HJ.out;have:=HZ.out;omega),by have h1:=HL.out;have h2:=HNL.out;have h3:=HJN.out;rw [IntWalk.wrap64_in _ ⟨by omega,by omega⟩];rfl,ZZ (by rw [HLT.out];exact HF.out)⟩
end Go.Proofs.YtkoaakefgacokaaGreatDoor
