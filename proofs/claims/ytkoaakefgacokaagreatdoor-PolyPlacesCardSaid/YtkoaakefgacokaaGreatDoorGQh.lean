/- Appending one number to a slice of the call's own, of whose block no cell is a digit. -/
import Derived.Test.YtkoaakefgacokaaGreatDoorGRe
import Derived.Maps.AppendAt
import Derived.Test.YtkoaakefgacokaaGreatDoorGWc
set_option linter.unusedVariables false
set_option maxRecDepth 100000
set_option maxHeartbeats 64000000
namespace Go.Proofs.YtkoaakefgacokaaGreatDoor
open Go.RowKit
def NotU (c:Value):Prop:=∀z,c≠.int .u64 z
def OwnR (w:World) (B:Nat) (v:Value) (n:Nat) (xs:List Value):Prop:=
 xs.length=n*3∧((v=.slice none 0 0∧n=0)∨∃g cap cur,v=.slice (some ⟨g,0,none⟩) n cap∧B≤g∧w.heap[g]?=some (.cells cur 38 (0,0))∧n≤cap∧cap≤maxLen∧cur.size=cap*3∧cur.toList.take (n*3)=xs∧∀c ∈ cur.toList,NotU c)
theorem OwnR.nil (w:World) (B:Nat):OwnR w B (.slice none 0 0) 0 []:=⟨rfl,.inl ⟨rfl,rfl⟩⟩
theorem zero_notU (n:Nat):∀c ∈ (Builtin.zeroCells #[.bool false,.slice none 0 0,.slice none 0 0] n).toList,NotU c:=by
 intro c hc z he;subst he;rw [Array.mem_toList_iff] at hc
 simp only [Builtin.zeroCells,Array.mem_map,Array.mem_range] at hc
 obtain⟨i,-,hi⟩:=hc
 have h3:i % (#[Value.bool false,Value.slice none 0 0,Value.slice none 0 0]:Array Value).size=0∨i % (#[Value.bool false,Value.slice none 0 0,Value.slice none 0 0]:Array Value).size=1∨i % (#[Value.bool false,Value.slice none 0 0,Value.slice none 0 0]:Array Value).size=2:=by
  show i % 3=0∨i % 3=1∨i % 3=2
  omega
 rcases h3 with e|e|e <;> rw [e] at hi <;> cases hi
theorem run_append1 (w:World) (B:Nat) (ty:TypeId) (v:Value) (n:Nat) (xs:List Value) (hown:OwnR w B v n xs) (a:Addr) (c:Nat) (news:List Value) (hl:news.length=3) (hnews:∀j u,news[j]?=some u→w.cell? (a.add j)=some u) (h1:∀u ∈ news,u.oneCell'=true) (hu:∀u ∈ news,NotU u) (hn:n≤1000000) (hB:B≤w.heap.size):∃v' w',(Builtin.append_ #[27,27] ty #[v,.slice (some a) 1 c]).run Tryz.prog w=.ok v' w'∧OwnR w' B v' (n+1) (xs ++ news)∧w.grownBy w' v.ownBlock:=by
 obtain⟨i,hi,hz0,hz1,hz2⟩:=info_parts info_num;have ht:=Tryz.underlying27;have hz3:(Value.agg #[.bool false,.slice none 0 0,.slice none 0 0]).cells=#[.bool false,.slice none 0 0,.slice none 0 0]:=rfl
 have grown:∀(old:Nat) (row:Option Nat),xs.length=n*3→(∀c ∈ xs,NotU c)→OwnR (w.drew.alloc (.cells (xs.toArray ++ news.toArray ++ Builtin.zeroCells (Value.agg #[.bool false,.slice none 0 0,.slice none 0 0]).cells (grownCap w (n+1) old 38 - (n+1))) 38)) B (.slice (some ⟨w.heap.size,0,none⟩) (n+1) (grownCap w (n+1) old 38)) (n+1) (xs ++ news)∧w.grownBy (w.drew.alloc (.cells (xs.toArray ++ news.toArray ++ Builtin.zeroCells (Value.agg #[.bool false,.slice none 0 0,.slice none 0 0]).cells (grownCap w (n+1) old 38 - (n+1))) 38)) row:=by
  intro old row hxl hxu;have hge:=grownCap_ge w (n+1) old 38;have hcm:grownCap w (n+1) old 38≤maxLen:=grownCap_le_maxLen w (n+1) old 38 (by unfold maxLen;omega);have hlen:(xs ++ news).length=(n+1)*3:=by rw [List.length_append,hxl,hl];omega
  refine⟨⟨hlen,.inr ⟨w.heap.size,_,_,rfl,hB,heap_alloc_new w.drew _,hge,hcm,?_,?_,?_⟩⟩,⟨rfl,rfl,rfl,by simp,fun k hk _=>heap_alloc_old w.drew _ hk⟩⟩
  ·rw [hz3]
   simp only [Array.size_append,List.size_toArray,size_zeroCells,hxl,hl]
   show n*3+3+(grownCap w (n+1) old 38 - (n+1))*3=_
   omega
  ·simp only [Array.toList_append,List.append_assoc]
   rw [←List.append_assoc,←hlen];exact List.take_left
  ·intro c hc
   rw [hz3] at hc
   simp only [Array.toList_append,List.mem_append] at hc
   rcases hc with (hc|hc)|hc
   ·exact hxu c hc
   ·exact hu c hc
   ·exact zero_notU _ c hc
 obtain⟨hxl,h2⟩:=hown
 rcases h2 with ⟨rfl,rfl⟩|⟨g,cap,cur,rfl,hbg,hg,hnc,hcm,hcs,htake,hnu⟩
 ·have hx:xs=[]:=List.eq_nil_of_length_eq_zero (by simpa using hxl)
  subst hx;have hr:=run_append_nil (P:=Tryz.prog) w 27 ty 38 i _ ht hi hz0 a 1 c news (by rw [hl,hz1]) hnews (by omega) (by omega) (by rw [hz2];omega);have hgr:=grown 0 (Value.ownBlock (.slice none 0 0)) rfl (fun c hc=>by cases hc)
  simp only [Nat.zero_add,List.nil_append,Array.empty_append] at hgr ⊢
  exact⟨_,_,hr,hgr.1,hgr.2⟩
 ·have hxu:∀c ∈ xs,NotU c:=fun c hc=>hnu c (List.mem_of_mem_take (by rw [htake];exact hc))
  by_cases hroom:n+1≤cap
  ·have hfit:n*i.size+news.length≤cur.size:=by rw [hl,hcs,hz1];omega
   have hr:=run_append_room (P:=Tryz.prog) w 27 ty 38 i ht hi g n cap cur hg a 1 c news (by rw [hl,hz1]) hnews h1 hroom hfit;rw [hz1] at hr;refine⟨_,_,hr,⟨by rw [List.length_append,hxl,hl];omega,.inr ⟨g,cap,_,rfl,hbg,setRow_heap w g cur _ _ _ hg,hroom,hcm,?_,?_,?_⟩⟩,⟨rfl,rfl,rfl,by simp,fun k _ hk=>setRow_other w g k _ (fun e=>hk (by simp [Value.ownBlock,e]))⟩⟩
   ·simp only [List.size_toArray,List.length_append,List.length_take,List.length_drop,Array.length_toList]
    omega
   ·rw [htake,show (n+1)*3=(xs ++ news).length by rw [List.length_append,hxl,hl];omega]
    exact List.take_left
   ·intro c hc
    simp only [List.mem_append] at hc
    rcases hc with (hc|hc)|hc
    ·rw [htake] at hc;exact hxu c hc
    ·exact hu c hc
    ·exact hnu c (List.mem_of_mem_drop hc)
  ·have holds:∀j u,xs[j]?=some u→w.cell? ((⟨g,0,none⟩:Addr).add j)=some u:=fun j u hj=>by
    have hc:w.cell? ⟨g,j,none⟩=some u:=by
     rw [cell_of_row w g j _ _ _ hg];rw [←htake,List.getElem?_take] at hj
     split at hj
     ·simpa using hj
     ·cases hj
    by_cases h0:j=0
    ·subst h0;exact hc
    ·simpa [Addr.add,h0] using hc
   have hr:=run_append_grow (P:=Tryz.prog) w 27 ty 38 i _ ht hi hz0 ⟨g,0,none⟩ n cap xs (by rw [hxl,hz1]) holds a 1 c news (by rw [hl,hz1]) hnews (by omega) (by omega) (growslice_fits (by omega) (by rw [hz2];omega));have hgr:=grown cap (Value.ownBlock (.slice (some ⟨g,0,none⟩) n cap)) hxl hxu;exact⟨_,_,hr,hgr.1,hgr.2⟩
theorem wpList_append1 {ops:Array Oper} {rest:List Oper} {o:Oper} {a:Act} {w:World} {Q:Exit→Act→World→Prop} (hgd:o.guard=none) (s x:Operand) (ho:o.op=.call { callee:=.builtin .append,args:=#[s,x],argTypes:=#[27,27] }) (B:Nat) (v:Value) (n:Nat) (xs:List Value) (hs:a.eval s=v) (hown:OwnR w B v n xs) (ad:Addr) (c:Nat) (news:List Value) (hx:a.eval x=.slice (some ad) 1 c) (hl:news.length=3) (hnews:∀j u,news[j]?=some u→w.cell? (ad.add j)=some u) (h1:∀u ∈ news,u.oneCell'=true) (hu:∀u ∈ news,NotU u) (hn:n≤1000000) (hB:B≤w.heap.size) (h:∀v' w',OwnR w' B v' (n+1) (xs ++ news)→w.grownBy w' v.ownBlock→wpList Tryz.prog ops Q rest (a.put o.dst v') w'):wpList Tryz.prog ops Q (o :: rest) a w:=by
 refine wpList_plain hgd fun K hK=>?_;obtain⟨v',w',hr,h2,h3⟩:=run_append1 w B o.type v n xs hown ad c news hl hnews h1 hu hn hB;unfold Oper.wp execOp
 simp only [ho,resolve,invoke,builtin,Sem.run_bind,Sem.run_pure,Result.andThen_ok,List.map_toArray,List.map_cons,List.map_nil,hs,hx,hr]
 exact hK _ _ (h v' w' h2 h3)
theorem OwnR.notU {w:World} {B:Nat} {v:Value} {n:Nat} {xs:List Value} (h:OwnR w B v n xs) {g:Nat} (hg:v.ownBlock=some g) (j:Nat) (z:Int):w.cell? ⟨g,j,none⟩≠some (.int .u64 z):=by
 intro hc;obtain⟨-,h2⟩:=h
 rcases h2 with ⟨rfl,-⟩|⟨g',cap,cur,rfl,-,hh,-,-,-,-,hnu⟩
 ·cases hg
 ·obtain rfl:g'=g:=Option.some.inj hg
  rw [cell_of_row w g' j _ _ _ hh] at hc
  have hm:(Value.int .u64 z) ∈ cur.toList:=by
   rw [Array.mem_toList_iff];exact Array.mem_of_getElem? hc
  exact hnu _ hm z rfl
theorem Wd.grownQ {w w':World} {v u:Value} {n B k:Nat} {xs:List Value} (h:Wd w v n) (hown:OwnR w B u k xs) (hg:w.grownBy w' u.ownBlock):Wd w' v n:=by
 obtain⟨A,cc,e,hc,hcl⟩:=h;refine⟨A,cc,e,hc,?_⟩
 rcases Nat.eq_zero_or_pos (dg n).length with h0|h0
 ·left;rw [List.length_eq_zero_iff.1 h0];rfl
 ·obtain⟨bl,o,hA,hce⟩:=hcl.at_ (by simpa using h0)
  right
  refine⟨bl,o,hA,fun j hj=>hg.cell (hce j hj) fun hb=>?_⟩;have hj':j<(dg n).length:=by simpa using hj
  have h1:=hce j hj;rw [getD_map_u64 _ _ hj'] at h1;exact hown.notU hb.symm _ _ h1
theorem Nm.grown {w w':World} {v u:Value} {q:Rat} {B k:Nat} {xs:List Value} (h:Nm w v q) (hown:OwnR w B u k xs) (hg:w.grownBy w' u.ownBlock):Nm w' v q:=by
 obtain⟨vn,vd,e,h1,h2⟩:=h;exact⟨vn,vd,e,h1.grownQ hown hg,h2.grownQ hown hg⟩
def OwnP (w:World) (B:Nat) (v:Value) (l:List Rat):Prop:=∃xs,OwnR w B v l.length xs∧∀i q,l[i]?=some q→∃s A k ca C m cb,xs[i*3]?=some (.bool s)∧xs[i*3+1]?=some (.slice A k ca)∧xs[i*3+2]?=some (.slice C m cb)∧Nm w (.agg #[.bool s,.slice A k ca,.slice C m cb]) q
theorem OwnP.nil (w:World) (B:Nat):OwnP w B (.slice none 0 0) []:=⟨[],OwnR.nil w B,fun i q h=>by cases h⟩
theorem OwnP.pl {w:World} {B:Nat} {v:Value} {l:List Rat} (h:OwnP w B v l):Pl w v l:=by
 obtain⟨xs,⟨hlen,h2⟩,hx⟩:=h
 rcases h2 with ⟨rfl,h0⟩|⟨g,cap,cur,rfl,-,hg,hc,-,-,ht,-⟩
 ·rw [List.length_eq_zero_iff.1 h0];exact Pl.nil w
 ·refine⟨_,cap,rfl,hc,.inr ⟨g,0,rfl,fun i q hq=>?_⟩⟩
  obtain⟨s,A,k,ca,C,m,cb,x0,x1,x2,hn⟩:=hx i q hq
  have key:∀(j:Nat) (u:Value),xs[j]?=some u→w.cell? ⟨g,j,none⟩=some u:=fun j u hu=>by
   rw [cell_of_row w g j _ _ _ hg];rw [←ht,List.getElem?_take] at hu
   split at hu
   ·simpa using hu
   ·cases hu
  rw [Nat.zero_add];exact⟨s,A,k,ca,C,m,cb,key _ _ x0,key _ _ x1,key _ _ x2,hn⟩
theorem OwnP.snoc {w w':World} {B:Nat} {v v':Value} {l:List Rat} {xs:List Value} {q:Rat} {s:Bool} {A C:Option Addr} {k ca m cb:Nat} (hown:OwnR w B v l.length xs) (hx:∀i q,l[i]?=some q→∃s A k ca C m cb,xs[i*3]?=some (.bool s)∧xs[i*3+1]?=some (.slice A k ca)∧xs[i*3+2]?=some (.slice C m cb)∧Nm w (.agg #[.bool s,.slice A k ca,.slice C m cb]) q) (hq:Nm w (.agg #[.bool s,.slice A k ca,.slice C m cb]) q) (hg:w.grownBy w' v.ownBlock) (h:OwnR w' B v' (l.length+1) (xs ++ [.bool s,.slice A k ca,.slice C m cb])):OwnP w' B v' (l ++ [q]):=by
 refine⟨_,by rw [List.length_append];exact h,fun i r hr=>?_⟩;have hxl:=hown.1
 rcases Nat.lt_or_ge i l.length with hi|hi
 ·rw [List.getElem?_append_left hi] at hr
  obtain⟨s1,A1,k1,ca1,C1,m1,cb1,x0,x1,x2,hn⟩:=hx i r hr;exact⟨s1,A1,k1,ca1,C1,m1,cb1,by rw [List.getElem?_append_left (by omega)];exact x0,by rw [List.getElem?_append_left (by omega)];exact x1,by rw [List.getElem?_append_left (by omega)];exact x2,hn.grown hown hg⟩
 ·rw [List.getElem?_append_right hi] at hr
  have hi0:i - l.length=0:=by
   rcases Nat.eq_zero_or_pos (i - l.length) with e|e
   ·exact e
   ·obtain⟨d,hd⟩:∃d,i - l.length=d+1:=⟨i - l.length - 1,by omega⟩
    rw [hd] at hr;simp at hr
  rw [hi0] at hr;obtain rfl:q=r:=Option.some.inj hr;obtain rfl:i=l.length:=by omega
  refine⟨s,A,k,ca,C,m,cb,?_,?_,?_,hq.grown hown hg⟩
  ·rw [List.getElem?_append_right (by omega),show l.length*3 - xs.length=0 by omega];rfl
  ·rw [List.getElem?_append_right (by omega),show l.length*3+1 - xs.length=1 by omega];rfl
  ·rw [List.getElem?_append_right (by omega),show l.length*3+2 - xs.length=2 by omega];rfl
theorem cells3_new (w:World) (a b c:Value) (T:TypeId):∀(j:Nat) (u:Value),[a,b,c][j]?=some u→(w.alloc (.cells #[a,b,c] T)).cell? ((⟨w.heap.size,0,none⟩:Addr).add j)=some u:=by
 intro j u hu;have h:=heap_alloc_new w (.cells #[a,b,c] T)
 have hc:(w.alloc (.cells #[a,b,c] T)).cell? ⟨w.heap.size,j,none⟩=some u:=by
  rw [cell_of_row _ _ j _ _ _ h];simpa using hu
 by_cases h0:j=0
 ·subst h0;exact hc
 ·simpa [Addr.add,h0] using hc
theorem OwnR.lt {w:World} {B:Nat} {v:Value} {n:Nat} {xs:List Value} (h:OwnR w B v n xs):∀k,v.ownBlock=some k→B≤k∧k<w.heap.size:=by
 intro k hk;obtain⟨-,h2⟩:=h
 rcases h2 with ⟨rfl,-⟩|⟨g,cap,cur,rfl,hb,hh,-⟩
 ·cases hk
 ·obtain rfl:g=k:=Option.some.inj hk
  exact⟨hb,lt_of_block hh⟩
theorem OwnR.mono {w w':World} {B:Nat} {v:Value} {n:Nat} {xs:List Value} (h:OwnR w B v n xs) (k:Ext w w'):OwnR w' B v n xs:=by
 obtain⟨h1,h2⟩:=h;refine⟨h1,?_⟩
 rcases h2 with h2|⟨g,cap,cur,e,hb,hh,hr⟩
 ·exact .inl h2
 ·exact .inr ⟨g,cap,cur,e,hb,(k.block _ (lt_of_block hh)).trans hh,hr⟩
theorem OwnP.mono {w w':World} {B:Nat} {v:Value} {l:List Rat} (h:OwnP w B v l) (k:Ext w w'):OwnP w' B v l:=by
 obtain⟨xs,h1,h2⟩:=h;refine⟨xs,h1.mono k,fun i q hq=>?_⟩;obtain⟨s,A,n,ca,C,m,cb,x0,x1,x2,hn⟩:=h2 i q hq;exact⟨s,A,n,ca,C,m,cb,x0,x1,x2,hn.mono k⟩
theorem ext_grown1 {w0 w w':World} {u:Value} {n:Nat} {xs:List Value} (h:Ext w0 w) (hown:OwnR w w0.heap.size u n xs) (hg:w.grownBy w' u.ownBlock):Ext w0 w':=
 Below.grown h hg h.size (fun k hk=>(hown.lt k hk).1)
def scaleF (p:List Rat) (x:Rat):List Rat:=trimF (p.map (·*x))
theorem scale_q (M:Nat) (hM:M≤1099511627776) (v vx:Value) (l:List Rat) (x:Rat) (hl:l.length≤1000000) (w:World) (h:Pl w v l) (hx:Nm w vx x) (hb:∀q ∈ l,Bq M q) (bx:Bq M x):Calls Tryz.prog 112 #[v,vx] w fun e w'=>∃v',e=.returned v'∧PlN w.heap.size w' v' (scaleF l x)∧Ext w w':=by
 obtain⟨s1,A1,k1,ca1,B1,l1,cb1,rfl⟩:=hx.form2;obtain⟨A,cap,rfl,hc,hA⟩:=id h;obtain⟨n,hn⟩:∃n,l.length=n:=⟨_,rfl⟩;rw [hn];have HNL:=ZZ hn;have HP:=ZZ h;have HX:=ZZ hx;have HL:=ZZ hl;have HB:=ZZ hb;have BX:=ZZ bx;have HM:=ZZ hM;have HA:=ZZ hA;have E0:=ZZ (ab w (.cells #[.bool s1,.slice A1 k1 ca1,.slice B1 l1 cb1] 38));have RX:=ZZ (heap_alloc_new w (.cells #[.bool s1,.slice A1 k1 ca1,.slice B1 l1 cb1] 38));clear h hx hl hb bx hM hA hc hn
 go_enter Tryz.func112,Tryz.ntmps112
 go_upto_region 1 with (fail)
 generalize World.alloc w (.cells #[.bool s1,.slice A1 k1 ca1,.slice B1 l1 cb1] _)=W1 at *;generalize hgx:w.heap.size=gx at *;have HG:=ZZ hgx;clear hgx;go_wp2_with fail
 go_loopg [10,5] n (fun k i u wr=>∃j,Hid (j+k=n)∧i=.int .i64 (j:Int)∧Hid (OwnP wr W1.heap.size u ((l.take j).map (·*x)))∧Hid (Ext W1 wr))
 case atStart=>exact⟨0,ZZ (Nat.zero_add _),rfl,ZZ (OwnP.nil _ _),ZZ (ae _)⟩
 case round=>
  obtain⟨j,HJ,rfl,HO,HE⟩:=hrel;rename World=>WR;rename Value=>u
  rcases Nat.eq_zero_or_pos gk with hz|hz
  ·subst hz
   obtain rfl:j=n:=HJ.out;have q1:decide ((j:Int)<(j:Int))=false:=decide_eq_false (Int.lt_irrefl _);go_wp2_with fail;refine(trim_q _ ((l.take j).map (·*x)) (by have:=HL.out;simp;omega) _ HO.out.pl).mono ?_;rintro e w' ⟨v',rfl,hn,kk⟩;rw [show trimF ((l.take j).map (·*x))=scaleF l x by rw [List.take_of_length_le (Nat.le_of_eq HNL.out)];rfl] at hn;have HN:=ZZ hn;have HK2:=ZZ kk;clear hn kk;go_wp2_with fail;go_ret;refine⟨_,rfl,?_,al E0.out (al HE.out HK2.out)⟩
   rcases HN.out with hn|⟨g,hg,hn⟩
   ·exact .inl hn
   ·refine .inr ⟨g,Nat.le_trans ?_ hg,hn⟩
    exact(al E0.out HE.out).size
  ·have hjn:j<n:=by have:=HJ.out;omega
   have q1:decide ((j:Int)<(n:Int))=true:=decide_eq_true (by omega);have q4:(j:Int)<(n:Int):=by omega
   have q5:(0:Int)≤(j:Int):=by omega
   rcases HA.out with ⟨-,h5⟩|⟨b,o,rfl,ht⟩
   ·have:=HNL.out;rw [h5] at this;simp at this;omega
   obtain⟨q,hq⟩:∃q,l[j]?=some q:=⟨l[j]'(by rw [HNL.out];exact hjn),List.getElem?_eq_getElem _⟩;have EW:=ZZ (al E0.out HE.out);obtain⟨s2,A2,k2,ca2,B2,l2,cb2,c0,c1,c2,hcn⟩:=(ht j q hq).mono EW.out;have HQ:=ZZ hq;have HCN:=ZZ hcn;have HZ:=ZZ hz;have HJN:=ZZ hjn;have BQ:=ZZ (HB.out q (List.mem_of_getElem? hq));obtain⟨x0,x1,x2,-⟩:=aj (((al HE.out (ab WR (.cells #[.bool s2,.slice A2 k2 ca2,.slice B2 l2 cb2] 38))).block _ (lt_of_block RX.out)).trans RX.out);clear hq hcn ht hz hjn;go_wp2_with fail;refine(mul_q M HM.out _ _ q x _ (HCN.out.mono (ab _ _)) (HX.out.mono (al EW.out (ab _ _))) BQ.out BX.out).mono ?_;rintro e w5 ⟨v5,rfl,h5,k5⟩;obtain⟨s5,A5,k5',ca5,B5,l5,cb5,rfl⟩:=h5.form2;have E6:=ZZ (show Ext WR (w5.alloc (.cells #[.bool s5,.slice A5 k5' ca5,.slice B5 l5 cb5] 38)) from al (ab WR (.cells #[.bool s2,.slice A2 k2 ca2,.slice B2 l2 cb2] 38)) (al k5 (ab _ _)));have H5:=ZZ (h5.mono (ab w5 (.cells #[.bool s5,.slice A5 k5' ca5,.slice B5 l5 cb5] 38)));obtain⟨xs,hown,hxs⟩:=HO.out.mono E6.out;have HXS:=ZZ hxs;have HOWN:=ZZ hown;have LT:=ZZ (show ((l.take j).map (·*x)).length=j by have h1:=HNL.out;have h2:=HJN.out;simp;omega);have C3:=ZZ (cells3_new w5 (.bool s5) (.slice A5 k5' ca5) (.slice B5 l5 cb5) 38);clear c0 c1 c2 x0 x1 x2 h5 k5 hown hxs
   go_wp2_with (at_builtin;refine wpList_append1 rfl _ _ rfl W1.heap.size _ ((l.take j).map (·*x)).length xs rfl HOWN.out ⟨w5.heap.size,0,none⟩ _ [.bool s5,.slice A5 k5' ca5,.slice B5 l5 cb5] rfl rfl C3.out (by intro u hu;simp at hu;rcases hu with rfl|rfl|rfl <;> rfl) (by intro u hu z he;subst he;simp at hu) (by have h1:=LT.out;have h2:=HL.out;have h3:=HNL.out;have h4:=HJN.out;omega) (al HE.out E6.out).size ?_;intro v' w7 hown7 hgrow)
   have HP7:=ZZ (OwnP.snoc HOWN.out HXS.out H5.out hgrow hown7);have E7:=ZZ (ext_grown1 (al HE.out E6.out) HOWN.out hgrow);clear hown7 hgrow;go_wp2_with fail
   go_roundg (gk - 1)
   case measure=>have:=HZ.out;omega
   case rel=>
    refine⟨j+1,ZZ (by have:=HJ.out;have:=HZ.out;omega),by have h1:=HL.out;have h2:=HNL.out;have h3:=HJN.out;rw [IntWalk.wrap64_in _ ⟨by omega,by omega⟩];rfl,ZZ ?_,ZZ E7.out⟩;rw [List.take_add_one,HQ.out,Option.toList_some,List.map_append];exact HP7.out
theorem row_set {W:World} {g j:Nat} {cs:Array Value} {T:TypeId} (h:W.heap[g]?=some (.cells cs T (0,0))) (v:Value):(W.setCell ⟨g,j,none⟩ v).heap[g]?=some (.cells (cs.setIfInBounds j v) T (0,0)):=by
 simp only [World.setCell,Array.getElem?_modify,h]
 simp
theorem frozen_row {W:World} {g:Nat} {cs:Array Value} {T:TypeId} (h:W.heap[g]?=some (.cells cs T (0,0))) (j:Nat):W.frozen? ⟨g,j,none⟩=false:=by
 simp [World.frozen?,h]
def put3at (W:World) (g j:Nat) (a b c:Value):World:=((W.setCell ⟨g,j,none⟩ a).setCell ⟨g,j+1,none⟩ b).setCell ⟨g,j+2,none⟩ c
theorem put3at_row {W:World} {g j:Nat} {cs:Array Value} {T:TypeId} (h:W.heap[g]?=some (.cells cs T (0,0))) (a b c:Value):(put3at W g j a b c).heap[g]?=some (.cells (((cs.setIfInBounds j a).setIfInBounds (j+1) b).setIfInBounds (j+2) c) T (0,0)):=
 row_set (row_set (row_set h a) b) c
theorem put3at_cell {W:World} {g j:Nat} {cs:Array Value} {T:TypeId} (h:W.heap[g]?=some (.cells cs T (0,0))) (a b c:Value) (b' i:Nat) (hne:b'≠g∨(i≠j∧i≠j+1∧i≠j+2)):(put3at W g j a b c).cell? ⟨b',i,none⟩=W.cell? ⟨b',i,none⟩:=by
 by_cases hb:b'=g
 ·subst hb
  obtain⟨h1,h2,h3⟩:=hne.resolve_left (fun e=>e rfl);rw [cell_of_row _ b' i _ _ _ (put3at_row h a b c),cell_of_row _ b' i _ _ _ h];rw [Array.getElem?_setIfInBounds_ne (Ne.symm h3),Array.getElem?_setIfInBounds_ne (Ne.symm h2),Array.getElem?_setIfInBounds_ne (Ne.symm h1)]
 ·refine World.cell?_of_block ?_
  unfold put3at;rw [Below.heap_setCell _ _ _ _ hb,Below.heap_setCell _ _ _ _ hb,Below.heap_setCell _ _ _ _ hb]
theorem put3at_new {W:World} {g j:Nat} {cs:Array Value} {T:TypeId} (h:W.heap[g]?=some (.cells cs T (0,0))) (hj:j+2<cs.size) (a b c:Value):(put3at W g j a b c).cell? ⟨g,j,none⟩=some a∧(put3at W g j a b c).cell? ⟨g,j+1,none⟩=some b∧(put3at W g j a b c).cell? ⟨g,j+2,none⟩=some c:=by
 have hr:=put3at_row h a b c (j:=j);refine⟨?_,?_,?_⟩
 ·rw [cell_of_row _ g j _ _ _ hr,Array.getElem?_setIfInBounds_ne (by omega),Array.getElem?_setIfInBounds_ne (by omega),Array.getElem?_setIfInBounds_self_of_lt (by omega)]
 ·rw [cell_of_row _ g (j+1) _ _ _ hr,Array.getElem?_setIfInBounds_ne (by omega),Array.getElem?_setIfInBounds_self_of_lt (by simp;omega)]
 ·rw [cell_of_row _ g (j+2) _ _ _ hr,Array.getElem?_setIfInBounds_self_of_lt (by simp;omega)]
theorem Nm.put3at {W:World} {v u:Value} {q:Rat} {g i:Nat} {l:List Rat} (h:Nm W v q) (ho:PlO W g u l) (hi:i<l.length) (a b c:Value):Nm (put3at W g (i*3) a b c) v q:=by
 obtain⟨cap,cur,-,hh,-⟩:=id ho;refine h.keepC ho.noU fun b' j hne=>put3at_cell hh a b c b' j ?_
 rcases hne with hne|hne
 ·exact .inl hne
 ·exact .inr (by omega)
theorem PlO.set {W:World} {g i:Nat} {v:Value} {l:List Rat} {q:Rat} {s:Bool} {A C:Option Addr} {k ca m cb:Nat} (h:PlO W g v l) (hi:i<l.length) (hq:Nm W (.agg #[.bool s,.slice A k ca,.slice C m cb]) q):PlO (put3at W g (i*3) (.bool s) (.slice A k ca) (.slice C m cb)) g v (l.set i q):=by
 obtain⟨cap,cur,e,hh,h1,h2,h3,h4⟩:=id h;have hsz:i*3+2<cur.size:=by rw [h3];omega
 refine⟨cap,_,by rw [List.length_set];exact e,put3at_row hh _ _ _,by rw [List.length_set];exact h1,h2,by simpa using h3,fun j r hr=>?_⟩
 by_cases hj:i=j
 ·subst hj
  rw [List.getElem?_set_self hi] at hr;obtain rfl:q=r:=Option.some.inj hr;obtain⟨n0,n1,n2⟩:=put3at_new hh hsz (.bool s) (.slice A k ca) (.slice C m cb);exact⟨s,A,k,ca,C,m,cb,n0,n1,n2,hq.put3at h hi _ _ _⟩
 ·rw [List.getElem?_set_ne hj] at hr
  obtain⟨s1,A1,k1,ca1,C1,m1,cb1,c0,c1,c2,hn⟩:=h4 j r hr;exact⟨s1,A1,k1,ca1,C1,m1,cb1,by rw [put3at_cell hh _ _ _ g _ (.inr (by omega))];exact c0,by rw [put3at_cell hh _ _ _ g _ (.inr (by omega))];exact c1,by rw [put3at_cell hh _ _ _ g _ (.inr (by omega))];exact c2,hn.put3at h hi _ _ _⟩
def stepL (p q:List Rat) (j:Nat):List Rat:=(List.range p.length).map fun i=>if i<j then co p i+co q i else co p i
theorem stepL_len (p q:List Rat) (j:Nat):(stepL p q j).length=p.length:=by simp [stepL]
theorem stepL_get (p q:List Rat) (j:Nat) {i:Nat} (hi:i<p.length):(stepL p q j)[i]?=some (if i<j then co p i+co q i else co p i):=by
 unfold stepL;rw [List.getElem?_map,List.getElem?_range hi];rfl
theorem stepL_zero (p q:List Rat):stepL p q 0=p:=by
 apply List.ext_getElem?
 intro i
 rcases Nat.lt_or_ge i p.length with hi|hi
 ·rw [stepL_get p q 0 hi,if_neg (Nat.not_lt_zero _)]
  unfold co;rw [List.getElem?_eq_getElem hi];rfl
 ·rw [List.getElem?_eq_none hi,List.getElem?_eq_none (by rw [stepL_len];exact hi)]
theorem stepL_succ (p q:List Rat) {j:Nat} (hj:j<p.length):(stepL p q j).set j (co p j+co q j)=stepL p q (j+1):=by
 apply List.ext_getElem?
 intro i
 rcases Nat.lt_or_ge i p.length with hi|hi
 ·rw [stepL_get p q (j+1) hi]
  by_cases e:j=i
  ·subst e
   rw [List.getElem?_set_self (by rw [stepL_len];exact hi),if_pos (Nat.lt_succ_self _)]
  ·rw [List.getElem?_set_ne e,stepL_get p q j hi]
   by_cases h:i<j
   ·rw [if_pos h,if_pos (Nat.lt_succ_of_lt h)]
   ·rw [if_neg h,if_neg (by omega)]
 ·rw [List.getElem?_eq_none (by rw [List.length_set,stepL_len];exact hi),List.getElem?_eq_none (by rw [stepL_len];exact hi)]
theorem co_step (p q:List Rat) (h:q.length≤p.length) (i:Nat):co (stepL p q q.length) i=co p i+co q i:=by
 rcases Nat.lt_or_ge i p.length with hi|hi
 ·show ((stepL p q q.length)[i]?).getD 0=_
  rw [stepL_get p q _ hi]
  show (if i<q.length then co p i+co q i else co p i)=_
  by_cases hq:i<q.length
  ·rw [if_pos hq]
  ·rw [if_neg hq,co_ge (p:=q) (by omega)];grind
 ·rw [co_ge (by rw [stepL_len];exact hi),co_ge hi,co_ge (p:=q) (by omega)];grind
def addF (p q:List Rat):List Rat:=trimF (zipA p q)
theorem addF_comm (p q:List Rat):addF p q=addF q p:=trim_co fun i=>by rw [co_zip,co_zip];grind
theorem addF_step (p q:List Rat) (h:q.length≤p.length):trimF (stepL p q q.length)=addF p q:=trim_co fun i=>by rw [co_step p q h,co_zip]
end Go.Proofs.YtkoaakefgacokaaGreatDoor
