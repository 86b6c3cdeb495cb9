/- Appending one number to a slice of the call's own, of whose block no cell is a digit. -/
import Derived.Test.YtjamgccgoapbeaaGreatDoorGQp
import Derived.Maps.AppendAt
set_option linter.unusedVariables false
set_option maxRecDepth 100000
set_option maxHeartbeats 64000000
namespace Go.Proofs.YtjamgccgoapbeaaGreatDoor
open Go.RowKit
def NotU (c:Value):Prop:=∀z,c≠.int .u64 z
def OwnR (w:World) (B:Nat) (v:Value) (n:Nat) (xs:List Value):Prop:=
 xs.length=n*3∧((v=.slice none 0 0∧n=0)∨∃g cap cur,v=.slice (some ⟨g,0,none⟩) n cap∧B≤g∧w.heap[g]?=some (.cells cur 35 (0,0))∧n≤cap∧cap≤maxLen∧cur.size=cap*3∧cur.toList.take (n*3)=xs∧∀c ∈ cur.toList,NotU c)
theorem OwnR.nil (w:World) (B:Nat):OwnR w B (.slice none 0 0) 0 []:=⟨rfl,.inl ⟨rfl,rfl⟩⟩
theorem zero_notU (n:Nat):∀c ∈ (Builtin.zeroCells #[.bool false,.slice none 0 0,.slice none 0 0] n).toList,NotU c:=by
 intro c hc z he;subst he;rw [Array.mem_toList_iff] at hc
 simp only [Builtin.zeroCells,Array.mem_map,Array.mem_range] at hc
 obtain⟨i,-,hi⟩:=hc
 have h3:i % (#[Value.bool false,Value.slice none 0 0,Value.slice none 0 0]:Array Value).size=0∨i % (#[Value.bool false,Value.slice none 0 0,Value.slice none 0 0]:Array Value).size=1∨i % (#[Value.bool false,Value.slice none 0 0,Value.slice none 0 0]:Array Value).size=2:=by
  show i % 3=0∨i % 3=1∨i % 3=2
  omega
 rcases h3 with e|e|e <;> rw [e] at hi <;> cases hi
theorem run_append1 (w:World) (B:Nat) (ty:TypeId) (v:Value) (n:Nat) (xs:List Value) (hown:OwnR w B v n xs) (a:Addr) (c:Nat) (news:List Value) (hl:news.length=3) (hnews:∀j u,news[j]?=some u→w.cell? (a.add j)=some u) (h1:∀u ∈ news,u.oneCell'=true) (hu:∀u ∈ news,NotU u) (hn:n≤1000000) (hB:B≤w.heap.size):∃v' w',(Builtin.append_ #[22,22] ty #[v,.slice (some a) 1 c]).run Tryz.prog w=.ok v' w'∧OwnR w' B v' (n+1) (xs ++ news)∧w.grownBy w' v.ownBlock:=by
 obtain⟨i,hi,hz0,hz1,hz2⟩:=info_parts info_num;have ht:=Tryz.underlying22;have hz3:(Value.agg #[.bool false,.slice none 0 0,.slice none 0 0]).cells=#[.bool false,.slice none 0 0,.slice none 0 0]:=rfl
 have grown:∀(old:Nat) (row:Option Nat),xs.length=n*3→(∀c ∈ xs,NotU c)→OwnR (w.drew.alloc (.cells (xs.toArray ++ news.toArray ++ Builtin.zeroCells (Value.agg #[.bool false,.slice none 0 0,.slice none 0 0]).cells (grownCap w (n+1) old 35 - (n+1))) 35)) B (.slice (some ⟨w.heap.size,0,none⟩) (n+1) (grownCap w (n+1) old 35)) (n+1) (xs ++ news)∧w.grownBy (w.drew.alloc (.cells (xs.toArray ++ news.toArray ++ Builtin.zeroCells (Value.agg #[.bool false,.slice none 0 0,.slice none 0 0]).cells (grownCap w (n+1) old 35 - (n+1))) 35)) row:=by
  intro old row hxl hxu;have hge:=grownCap_ge w (n+1) old 35;have hcm:grownCap w (n+1) old 35≤maxLen:=grownCap_le_maxLen w (n+1) old 35 (by unfold maxLen;omega);have hlen:(xs ++ news).length=(n+1)*3:=by rw [List.length_append,hxl,hl];omega
  refine⟨⟨hlen,.inr ⟨w.heap.size,_,_,rfl,hB,heap_alloc_new w.drew _,hge,hcm,?_,?_,?_⟩⟩,⟨rfl,rfl,rfl,by simp,fun k hk _=>heap_alloc_old w.drew _ hk⟩⟩
  ·rw [hz3]
   simp only [Array.size_append,List.size_toArray,size_zeroCells,hxl,hl]
   show n*3+3+(grownCap w (n+1) old 35 - (n+1))*3=_
   omega
  ·simp only [Array.toList_append,List.append_assoc]
   rw [←List.append_assoc,←hlen];exact List.take_left
  ·intro c hc
   rw [hz3] at hc
   simp only [Array.toList_append,List.mem_append] at hc
   rcases hc with (hc|hc)|hc
   ·exact hxu c hc
   ·exact hu c hc
   ·exact zero_notU _ c hc
 obtain⟨hxl,h2⟩:=hown
 rcases h2 with ⟨rfl,rfl⟩|⟨g,cap,cur,rfl,hbg,hg,hnc,hcm,hcs,htake,hnu⟩
 ·have hx:xs=[]:=List.eq_nil_of_length_eq_zero (by simpa using hxl)
  subst hx;have hr:=run_append_nil (P:=Tryz.prog) w 22 ty 35 i _ ht hi hz0 a 1 c news (by rw [hl,hz1]) hnews (by omega) (by omega) (by rw [hz2];omega);have hgr:=grown 0 (Value.ownBlock (.slice none 0 0)) rfl (fun c hc=>by cases hc)
  simp only [Nat.zero_add,List.nil_append,Array.empty_append] at hgr ⊢
  exact⟨_,_,hr,hgr.1,hgr.2⟩
 ·have hxu:∀c ∈ xs,NotU c:=fun c hc=>hnu c (List.mem_of_mem_take (by rw [htake];exact hc))
  by_cases hroom:n+1≤cap
  ·have hfit:n*i.size+news.length≤cur.size:=by rw [hl,hcs,hz1];omega
   have hr:=run_append_room (P:=Tryz.prog) w 22 ty 35 i ht hi g n cap cur hg a 1 c news (by rw [hl,hz1]) hnews h1 hroom hfit;rw [hz1] at hr;refine⟨_,_,hr,⟨by rw [List.length_append,hxl,hl];omega,.inr ⟨g,cap,_,rfl,hbg,setRow_heap w g cur _ _ _ hg,hroom,hcm,?_,?_,?_⟩⟩,⟨rfl,rfl,rfl,by simp,fun k _ hk=>setRow_other w g k _ (fun e=>hk (by simp [Value.ownBlock,e]))⟩⟩
   ·simp only [List.size_toArray,List.length_append,List.length_take,List.length_drop,Array.length_toList]
    omega
   ·rw [htake,show (n+1)*3=(xs ++ news).length by rw [List.length_append,hxl,hl];omega]
    exact List.take_left
   ·intro c hc
    simp only [List.mem_append] at hc
    rcases hc with (hc|hc)|hc
    ·rw [htake] at hc;exact hxu c hc
    ·exact hu c hc
    ·exact hnu c (List.mem_of_mem_drop hc)
  ·have holds:∀j u,xs[j]?=some u→w.cell? ((⟨g,0,none⟩:Addr).add j)=some u:=fun j u hj=>by
    have hc:w.cell? ⟨g,j,none⟩=some u:=by
     rw [cell_of_row w g j _ _ _ hg];rw [←htake,List.getElem?_take] at hj
     split at hj
     ·simpa using hj
     ·cases hj
    by_cases h0:j=0
    ·subst h0;exact hc
    ·simpa [Addr.add,h0] using hc
   have hr:=run_append_grow (P:=Tryz.prog) w 22 ty 35 i _ ht hi hz0 ⟨g,0,none⟩ n cap xs (by rw [hxl,hz1]) holds a 1 c news (by rw [hl,hz1]) hnews (by omega) (by omega) (growslice_fits (by omega) (by rw [hz2];omega));have hgr:=grown cap (Value.ownBlock (.slice (some ⟨g,0,none⟩) n cap)) hxl hxu;exact⟨_,_,hr,hgr.1,hgr.2⟩
theorem wpList_append1 {ops:Array Oper} {rest:List Oper} {o:Oper} {a:Act} {w:World} {Q:Exit→Act→World→Prop} (hgd:o.guard=none) (s x:Operand) (ho:o.op=.call { callee:=.builtin .append,args:=#[s,x],argTypes:=#[22,22] }) (B:Nat) (v:Value) (n:Nat) (xs:List Value) (hs:a.eval s=v) (hown:OwnR w B v n xs) (ad:Addr) (c:Nat) (news:List Value) (hx:a.eval x=.slice (some ad) 1 c) (hl:news.length=3) (hnews:∀j u,news[j]?=some u→w.cell? (ad.add j)=some u) (h1:∀u ∈ news,u.oneCell'=true) (hu:∀u ∈ news,NotU u) (hn:n≤1000000) (hB:B≤w.heap.size) (h:∀v' w',OwnR w' B v' (n+1) (xs ++ news)→w.grownBy w' v.ownBlock→wpList Tryz.prog ops Q rest (a.put o.dst v') w'):wpList Tryz.prog ops Q (o :: rest) a w:=by
 refine wpList_plain hgd fun K hK=>?_;obtain⟨v',w',hr,h2,h3⟩:=run_append1 w B o.type v n xs hown ad c news hl hnews h1 hu hn hB;unfold Oper.wp execOp
 simp only [ho,resolve,invoke,builtin,Sem.run_bind,Sem.run_pure,Result.andThen_ok,List.map_toArray,List.map_cons,List.map_nil,hs,hx,hr]
 exact hK _ _ (h v' w' h2 h3)
theorem OwnR.notU {w:World} {B:Nat} {v:Value} {n:Nat} {xs:List Value} (h:OwnR w B v n xs) {g:Nat} (hg:v.ownBlock=some g) (j:Nat) (z:Int):w.cell? ⟨g,j,none⟩≠some (.int .u64 z):=by
 intro hc;obtain⟨-,h2⟩:=h
 rcases h2 with ⟨rfl,-⟩|⟨g',cap,cur,rfl,-,hh,-,-,-,-,hnu⟩
 ·cases hg
 ·obtain rfl:g'=g:=Option.some.inj hg
  rw [cell_of_row w g' j _ _ _ hh] at hc
  have hm:(Value.int .u64 z) ∈ cur.toList:=by
   rw [Array.mem_toList_iff];exact Array.mem_of_getElem? hc
  exact hnu _ hm z rfl
theorem Wd.grownQ {w w':World} {v u:Value} {n B k:Nat} {xs:List Value} (h:Wd w v n) (hown:OwnR w B u k xs) (hg:w.grownBy w' u.ownBlock):Wd w' v n:=by
 obtain⟨A,cc,e,hc,hcl⟩:=h;refine⟨A,cc,e,hc,?_⟩
 rcases Nat.eq_zero_or_pos (dg n).length with h0|h0
 ·left;rw [List.length_eq_zero_iff.1 h0];rfl
 ·obtain⟨bl,o,hA,hce⟩:=hcl.at_ (by simpa using h0)
  right
  refine⟨bl,o,hA,fun j hj=>hg.cell (hce j hj) fun hb=>?_⟩;have hj':j<(dg n).length:=by simpa using hj
  have h1:=hce j hj;rw [getD_map_u64 _ _ hj'] at h1;exact hown.notU hb.symm _ _ h1
theorem Nm.grown {w w':World} {v u:Value} {q:Rat} {B k:Nat} {xs:List Value} (h:Nm w v q) (hown:OwnR w B u k xs) (hg:w.grownBy w' u.ownBlock):Nm w' v q:=by
 obtain⟨vn,vd,e,h1,h2⟩:=h;exact⟨vn,vd,e,h1.grownQ hown hg,h2.grownQ hown hg⟩
def OwnP (w:World) (B:Nat) (v:Value) (l:List Rat):Prop:=∃xs,OwnR w B v l.length xs∧∀i q,l[i]?=some q→∃s A k ca C m cb,xs[i*3]?=some (.bool s)∧xs[i*3+1]?=some (.slice A k ca)∧xs[i*3+2]?=some (.slice C m cb)∧Nm w (.agg #[.bool s,.slice A k ca,.slice C m cb]) q
theorem OwnP.nil (w:World) (B:Nat):OwnP w B (.slice none 0 0) []:=⟨[],OwnR.nil w B,fun i q h=>by cases h⟩
theorem OwnP.pl {w:World} {B:Nat} {v:Value} {l:List Rat} (h:OwnP w B v l):Pl w v l:=by
 obtain⟨xs,⟨hlen,h2⟩,hx⟩:=h
 rcases h2 with ⟨rfl,h0⟩|⟨g,cap,cur,rfl,-,hg,hc,-,-,ht,-⟩
 ·rw [List.length_eq_zero_iff.1 h0];exact Pl.nil w
 ·refine⟨_,cap,rfl,hc,.inr ⟨g,0,rfl,fun i q hq=>?_⟩⟩
  obtain⟨s,A,k,ca,C,m,cb,x0,x1,x2,hn⟩:=hx i q hq
  have key:∀(j:Nat) (u:Value),xs[j]?=some u→w.cell? ⟨g,j,none⟩=some u:=fun j u hu=>by
   rw [cell_of_row w g j _ _ _ hg];rw [←ht,List.getElem?_take] at hu
   split at hu
   ·simpa using hu
   ·cases hu
  rw [Nat.zero_add];exact⟨s,A,k,ca,C,m,cb,key _ _ x0,key _ _ x1,key _ _ x2,hn⟩
theorem OwnP.snoc {w w':World} {B:Nat} {v v':Value} {l:List Rat} {xs:List Value} {q:Rat} {s:Bool} {A C:Option Addr} {k ca m cb:Nat} (hown:OwnR w B v l.length xs) (hx:∀i q,l[i]?=some q→∃s A k ca C m cb,xs[i*3]?=some (.bool s)∧xs[i*3+1]?=some (.slice A k ca)∧xs[i*3+2]?=some (.slice C m cb)∧Nm w (.agg #[.bool s,.slice A k ca,.slice C m cb]) q) (hq:Nm w (.agg #[.bool s,.slice A k ca,.slice C m cb]) q) (hg:w.grownBy w' v.ownBlock) (h:OwnR w' B v' (l.length+1) (xs ++ [.bool s,.slice A k ca,.slice C m cb])):OwnP w' B v' (l ++ [q]):=by
 refine⟨_,by rw [List.length_append];exact h,fun i r hr=>?_⟩;have hxl:=hown.1
 rcases Nat.lt_or_ge i l.length with hi|hi
 ·rw [List.getElem?_append_left hi] at hr
  obtain⟨s1,A1,k1,ca1,C1,m1,cb1,x0,x1,x2,hn⟩:=hx i r hr;exact⟨s1,A1,k1,ca1,C1,m1,cb1,by rw [List.getElem?_append_left (by omega)];exact x0,by rw [List.getElem?_append_left (by omega)];exact x1,by rw [List.getElem?_append_left (by omega)];exact x2,hn.grown hown hg⟩
 ·rw [List.getElem?_append_right hi] at hr
  have hi0:i - l.length=0:=by
   rcases Nat.eq_zero_or_pos (i - l.length) with e|e
   ·exact e
   ·obtain⟨d,hd⟩:∃d,i - l.length=d+1:=⟨i - l.length - 1,by omega⟩
    rw [hd] at hr;simp at hr
  rw [hi0] at hr;obtain rfl:q=r:=Option.some.inj hr;obtain rfl:i=l.length:=by omega
  refine⟨s,A,k,ca,C,m,cb,?_,?_,?_,hq.grown hown hg⟩
  ·rw [List.getElem?_append_right (by omega),show l.length*3 - xs.length=0 by omega];rfl
  ·rw [List.getElem?_append_right (by omega),show l.length*3+1 - xs.length=1 by omega];rfl
  ·rw [List.getElem?_append_right (by omega),show l.length*3+2 - xs.length=2 by omega];rfl
end Go.Proofs.YtjamgccgoapbeaaGreatDoor
