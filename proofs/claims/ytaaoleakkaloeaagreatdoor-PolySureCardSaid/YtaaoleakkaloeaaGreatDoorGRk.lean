/- The reference's texts: parts and rows of digits. Slices of the call's own whose block holds cells of one kind only: append. Slices of polynomials of the call's own; Div, Gcd, Parts. -/
import Derived.Test.YtaaoleakkaloeaaGreatDoorGVx
import Derived.Test.YtaaoleakkaloeaaGreatDoorGQx
import Derived.Test.YtaaoleakkaloeaaGreatDoorGQt
set_option linter.unusedVariables false
set_option maxRecDepth 100000
set_option maxHeartbeats 64000000
namespace Go.Proofs.YtaaoleakkaloeaaGreatDoor
open Go.RowKit
theorem byte_eq (a c:UInt8):((((a.toNat:Nat):Int) == ((c.toNat:Nat):Int))=true↔a=c):=by
 rw [beq_iff_eq]
 constructor
 ·intro e;apply UInt8.toNat_inj.1;omega
 ·rintro rfl;rfl
theorem split_r (l:List UInt8) (c:UInt8) (hs:l.length≤9223372036854775807) (w:World):Calls Tryz.prog 70 #[.string ⟨l.toArray⟩,.int .u8 (c.toNat:Int)] w fun e w'=>e=.returned (.tuple #[.string ⟨(cutB c l).1.toArray⟩,.string ⟨(cutB c l).2.1.toArray⟩,.bool (cutB c l).2.2])∧∃q,w'=w.drewN q:=by
 have hsz:(⟨l.toArray⟩:ByteArray).size=l.length:=by simp [ByteArray.size]
 go_enter Tryz.func70,Tryz.ntmps70
 go_wp2_with fail
 go_loopg [7] (l.length) (fun k i wr=>∃t:Nat,t+k=l.length∧i=.int .i64 (t:Int)∧Hid (c ∉ l.take t)∧wr=w)
 case atStart=>exact⟨0,by omega,rfl,ZZ (by simp),rfl⟩
 case round=>
  obtain⟨t,ht,rfl,HN,rfl⟩:=hrel
  rcases Nat.eq_zero_or_pos gk with hz|hz
  ·subst hz
   obtain rfl:t=l.length:=by omega
   have HNO:=ZZ (show cutB c l=(l,[],false) from cutB_no l c (by have:=HN.out;rwa [List.take_length] at this));go_wp2_with fail;refine bodyPost_ret (v:=.tuple #[.string ⟨l.toArray⟩,.string ⟨#[]⟩,.bool false]) (by simp [results,Tryz.f70]) rfl ?_;exact⟨by rw [HNO.out],0,rfl⟩
  ·have hlt:(t:Int)<(l.length:Int):=by omega
   have htl:t<l.length:=by omega
   have hz1:t<(⟨l.toArray⟩:ByteArray).size:=by rw [hsz];exact htl
   have hge:(⟨l.toArray⟩:ByteArray)[t]'hz1=(l[t]'htl):=by rfl
   have HT:=ZZ ht;have HZ0:=ZZ hz;have HTL:=ZZ htl
   by_cases hb:(l[t]'htl)=c
   ·have ht1:((((⟨l.toArray⟩:ByteArray)[t]'hz1).toNat:Int) == (c.toNat:Int))=true:=by rw [hge];exact(byte_eq _ _).2 hb
    have HY:=ZZ (show cutB c l=(l.take t,l.drop (t+1),true) by
     have h1:l=l.take t ++ c :: l.drop (t+1):=by
      have h0:l=l.take t ++ (l[t]'htl) :: l.drop (t+1):=by rw [←List.drop_eq_getElem_cons htl,List.take_append_drop]
      have h3:l.take t ++ (l[t]'htl) :: l.drop (t+1)=l.take t ++ c :: l.drop (t+1):=by rw [show l[t]'htl=c from hb]
      exact h0.trans h3
     have h2:=cutB_yes (l.take t) (l.drop (t+1)) c HN.out;rw [←h1] at h2;exact h2)
    have hx1:(⟨l.toArray⟩:ByteArray).extract 0 t=⟨(l.take t).toArray⟩:=by apply ByteArray.ext;simp
    have hx2:(⟨l.toArray⟩:ByteArray).extract (t+1) l.length=⟨(l.drop (t+1)).toArray⟩:=by apply ByteArray.ext;simp;exact List.take_of_length_le (by simp)
    have hw:IntKind.i64.wrap ((t:Int)+1)=((t+1:Nat):Int):=(IntWalk.i64_in _ (by omega)).trans (by omega);have hb1:(t:Int)≤(l.length:Int):=by omega
    have hb2:((t+1:Nat):Int)≤(l.length:Int):=by omega
    clear hb hge;go_wp2_with fail
    go_quiet (fail)
    go_wp2_with fail;refine bodyPost_ret (v:=.tuple #[.string ⟨(l.take t).toArray⟩,.string ⟨(l.drop (t+1)).toArray⟩,.bool true]) (by simp [results,Tryz.f70]) rfl ?_
    exact⟨by rw [HY.out],_,rfl⟩
   ·have ht1:((((⟨l.toArray⟩:ByteArray)[t]'hz1).toNat:Int) == (c.toNat:Int))=false:=by
     rw [hge]
     cases h:((((l[t]'htl).toNat:Nat):Int) == ((c.toNat:Nat):Int)) with
     | false=>rfl
     | true=>exact absurd ((byte_eq _ _).1 h) hb
    have HB:=ZZ hb;clear hb hge;have hw:IntKind.i64.wrap ((t:Int)+1)=((t+1:Nat):Int):=(IntWalk.i64_in _ (by omega)).trans (by omega);go_wp2_with fail
    go_roundg (gk - 1)
    case measure=>have:=HZ0.out;omega
    case rel=>
     refine⟨t+1,by have:=HT.out;have:=HZ0.out;omega,by first|rfl|simp,ZZ ?_,rfl⟩;rw [List.take_succ_eq_append_getElem HTL.out,List.mem_append,List.mem_singleton];rintro(h|h)
     ·exact HN.out h
     ·exact HB.out h.symm
theorem all_take {l:List UInt8} {t:Nat} (h:t<l.length) (ha:(l.take t).all isDig=true) (hd:isDig (l[t]'h)=true):(l.take (t+1)).all isDig=true:=by
 rw [List.take_succ_eq_append_getElem h,List.all_append,ha]
 simp [hd]
theorem digits_r (l:List UInt8) (hs:l.length≤9223372036854775807) (w:World):Calls Tryz.prog 71 #[.string ⟨l.toArray⟩] w fun e w'=>e=.returned (.bool (digB l))∧w'=w:=by
 have hsz:(⟨l.toArray⟩:ByteArray).size=l.length:=by simp [ByteArray.size]
 go_enter Tryz.func71,Tryz.ntmps71
 go_wp2_with fail
 go_loopg [3] (l.length) (fun k i wr=>∃t:Nat,t+k=l.length∧i=.int .i64 (t:Int)∧Hid ((l.take t).all isDig=true)∧wr=w)
 case atStart=>exact⟨0,by omega,rfl,ZZ (by simp),rfl⟩
 case round=>
  obtain⟨t,ht,rfl,HN,rfl⟩:=hrel
  rcases Nat.eq_zero_or_pos gk with hz|hz
  ·subst hz
   obtain rfl:t=l.length:=by omega
   have hall:=HN.out;rw [List.take_length] at hall
   have HD:=ZZ (show digB l=decide (0<l.length) by
    unfold digB;rw [hall,Bool.and_true]
    cases l <;> simp)
   clear hall
   by_cases h0:0<l.length
   ·have HD2:=ZZ (show digB l=true by rw [HD.out,decide_eq_true h0])
    have h3:decide ((0:Int)<(l.length:Int))=true:=decide_eq_true (by omega);have h2:decide (0<l.length)=true:=decide_eq_true h0;go_wp2_with fail;go_ret;exact⟨by rw [HD2.out];rfl,rfl⟩
   ·have h1:l.length=0:=by omega
    have HD2:=ZZ (show digB l=false by rw [HD.out,decide_eq_false h0]);have h2:decide (0<l.length)=false:=decide_eq_false h0;have h3:decide ((0:Int)<(l.length:Int))=false:=decide_eq_false (by omega);go_wp2_with fail;go_ret;exact⟨by rw [HD2.out];rfl,rfl⟩
  ·have hlt:(t:Int)<(l.length:Int):=by omega
   have htl:t<l.length:=by omega
   have hz1:t<(⟨l.toArray⟩:ByteArray).size:=by rw [hsz];exact htl
   have hge:(⟨l.toArray⟩:ByteArray)[t]'hz1=(l[t]'htl):=by rfl
   have HT:=ZZ ht;have HZ0:=ZZ hz;have HTL:=ZZ htl;have hw:IntKind.i64.wrap ((t:Int)+1)=((t+1:Nat):Int):=(IntWalk.i64_in _ (by omega)).trans (by omega);obtain⟨x,hx⟩:∃x:Nat,x=((l[t]'htl)).toNat:=⟨_,rfl⟩;have hxe:((⟨l.toArray⟩:ByteArray)[t]'hz1).toNat=x:=by rw [hge,hx]
   by_cases h1:x<48
   ·have ht1:decide ((((⟨l.toArray⟩:ByteArray)[t]'hz1).toNat:Int)<48)=true:=by rw [hxe];simp;omega
    have ht2:decide (((⟨l.toArray⟩:ByteArray)[t]'hz1).toNat<48)=true:=by rw [hxe];simp;omega
    have HNO:=ZZ (show digB l=false by
     unfold digB
     rw [show l.all isDig=false from by
      rw [List.all_eq_false];exact⟨(l[t]'htl),List.getElem_mem _,by cases hq:isDig (l[t]'htl) with
       | false=>exact Bool.false_ne_true
       | true=>exact absurd hq (by rw [isDig_iff,←hx];omega)⟩,Bool.and_false])
    clear hge hxe hx h1;go_wp2_with fail;go_ret;exact⟨by rw [HNO.out];rfl,rfl⟩
   ·have ht1:decide ((((⟨l.toArray⟩:ByteArray)[t]'hz1).toNat:Int)<48)=false:=by rw [hxe];simp;omega
    have ht2:decide (((⟨l.toArray⟩:ByteArray)[t]'hz1).toNat<48)=false:=by rw [hxe];simp;omega
    by_cases h2:57<x
    ·have ht3:decide ((57:Int)<(((⟨l.toArray⟩:ByteArray)[t]'hz1).toNat:Int))=true:=by rw [hxe];simp;omega
     have ht4:decide (57<((⟨l.toArray⟩:ByteArray)[t]'hz1).toNat)=true:=by rw [hxe];simp;omega
     have HNO:=ZZ (show digB l=false by
      unfold digB
      rw [show l.all isDig=false from by
       rw [List.all_eq_false];exact⟨(l[t]'htl),List.getElem_mem _,by cases hq:isDig (l[t]'htl) with
       | false=>exact Bool.false_ne_true
       | true=>exact absurd hq (by rw [isDig_iff,←hx];omega)⟩,Bool.and_false])
     clear hge hxe hx h1 h2;go_wp2_with fail;go_ret;exact⟨by rw [HNO.out];rfl,rfl⟩
    ·have ht3:decide ((57:Int)<(((⟨l.toArray⟩:ByteArray)[t]'hz1).toNat:Int))=false:=by rw [hxe];simp;omega
     have ht4:decide (57<((⟨l.toArray⟩:ByteArray)[t]'hz1).toNat)=false:=by rw [hxe];simp;omega
     have HAT:=ZZ (all_take HTL.out HN.out (by rw [isDig_iff,←hx];omega));clear hge hxe hx h1 h2;go_wp2_with fail
     go_roundg (gk - 1)
     case measure=>have:=HZ0.out;omega
     case rel=>exact⟨t+1,by have:=HT.out;have:=HZ0.out;omega,by first|rfl|simp,HAT,rfl⟩
end Go.Proofs.YtaaoleakkaloeaaGreatDoor
set_option linter.unusedVariables false
set_option maxRecDepth 100000
set_option maxHeartbeats 64000000
namespace Go.Proofs.YtaaoleakkaloeaaGreatDoor
open Go.RowKit
set_option linter.unusedSimpArgs false
structure ElT (P:Program) (S T:TypeId) (s bytes:Nat) (z:Value):Prop where
 und:P.underlying S=some (.slice T)
 inf:∃i,P.info? T=some i∧i.zero=some z∧i.size=s∧i.bytes=bytes
 sz:z.cells.size=s
 pos:0<s
def OwnG (w:World) (B:Nat) (T:TypeId) (s:Nat) (C:Value→Prop) (v:Value) (n:Nat) (xs:List Value):Prop:=
 xs.length=n*s∧((v=.slice none 0 0∧n=0)∨∃g cap cur,v=.slice (some ⟨g,0,none⟩) n cap∧B≤g∧w.heap[g]?=some (.cells cur T (0,0))∧n≤cap∧cap≤maxLen∧cur.size=cap*s∧cur.toList.take (n*s)=xs∧∀c ∈ cur.toList,C c)
theorem OwnG.nil (w:World) (B:Nat) (T:TypeId) (s:Nat) (C:Value→Prop):OwnG w B T s C (.slice none 0 0) 0 []:=⟨by simp,.inl ⟨rfl,rfl⟩⟩
theorem zero_kind {C:Value→Prop} {z:Array Value} (hz:∀c ∈ z.toList,C c) (h0:0<z.size) (n:Nat):∀c ∈ (Builtin.zeroCells z n).toList,C c:=by
 intro c hc;rw [Array.mem_toList_iff] at hc
 simp only [Builtin.zeroCells,Array.mem_map,Array.mem_range] at hc
 obtain⟨i,-,rfl⟩:=hc;have hlt:i % z.size<z.size:=Nat.mod_lt _ h0;rw [getElem!_pos z (i % z.size) hlt];exact hz _ (by simp)
theorem run_appendG2 {P:Program} {S T:TypeId} {s bytes:Nat} {z:Value} (E:ElT P S T s bytes z) {C:Value→Prop} (hC0:∀c ∈ z.cells.toList,C c) (w:World) (B:Nat) (ty:TypeId) (v:Value) (n:Nat) (xs:List Value) (hown:OwnG w B T s C v n xs) (a:Addr) (m c:Nat) (news:List Value) (hl:news.length=m*s) (hnews:∀j u,news[j]?=some u→w.cell? (a.add j)=some u) (h1:∀u ∈ news,u.oneCell'=true) (hu:∀u ∈ news,C u) (hm:0<m) (hn:(n+m)*bytes≤140737488355328) (h63:n+m≤maxLen) (hB:B≤w.heap.size):∃v' w',(Builtin.append_ #[S,S] ty #[v,.slice (some a) m c]).run P w=.ok v' w'∧OwnG w' B T s C v' (n+m) (xs ++ news)∧w.grownBy w' v.ownBlock∧(v'.ownBlock=v.ownBlock∨v'.ownBlock=some w.heap.size):=by
 obtain⟨i,hi,hz0,hz1,hz2⟩:=E.inf;have ht:=E.und;have hML:maxLen=9223372036854775807:=by unfold maxLen;rfl
 have grown:∀(old:Nat) (row:Option Nat),xs.length=n*s→(∀c ∈ xs,C c)→OwnG (w.drew.alloc (.cells (xs.toArray ++ news.toArray ++ Builtin.zeroCells z.cells (grownCap w (n+m) old T - (n+m))) T)) B T s C (.slice (some ⟨w.heap.size,0,none⟩) (n+m) (grownCap w (n+m) old T)) (n+m) (xs ++ news)∧w.grownBy (w.drew.alloc (.cells (xs.toArray ++ news.toArray ++ Builtin.zeroCells z.cells (grownCap w (n+m) old T - (n+m))) T)) row:=by
  intro old row hxl hxu;have hge:=grownCap_ge w (n+m) old T;have hcm:grownCap w (n+m) old T≤maxLen:=grownCap_le_maxLen w (n+m) old T h63;have hlen:(xs ++ news).length=(n+m)*s:=by rw [List.length_append,hxl,hl,Nat.add_mul]
  refine⟨⟨hlen,.inr ⟨w.heap.size,_,_,rfl,hB,heap_alloc_new w.drew _,hge,hcm,?_,?_,?_⟩⟩,⟨rfl,rfl,rfl,by simp,fun k hk _=>heap_alloc_old w.drew _ hk⟩⟩
  ·simp only [Array.size_append,List.size_toArray,size_zeroCells,hxl,hl,E.sz]
   rw [←Nat.add_mul,←Nat.add_mul]
   congr 1
   omega
  ·simp only [Array.toList_append,List.append_assoc]
   rw [←List.append_assoc,←hlen];exact List.take_left
  ·intro c hc
   simp only [Array.toList_append,List.mem_append] at hc
   rcases hc with (hc|hc)|hc
   ·exact hxu c hc
   ·exact hu c hc
   ·exact zero_kind hC0 (by rw [E.sz];exact E.pos) _ c hc
 obtain⟨hxl,h2⟩:=hown
 rcases h2 with ⟨rfl,rfl⟩|⟨g,cap,cur,rfl,hbg,hg,hnc,hcm,hcs,htake,hnu⟩
 ·have hx:xs=[]:=List.eq_nil_of_length_eq_zero (by simpa using hxl)
  subst hx;have hr:=run_append_nil (P:=P) w S ty T i z ht hi hz0 a m c news (by rw [hl,hz1]) hnews hm (by omega) (by rw [hz2];rw [Nat.zero_add] at hn;omega);have hgr:=grown 0 (Value.ownBlock (.slice none 0 0)) (by simp) (fun c hc=>by cases hc)
  simp only [Nat.zero_add,List.nil_append,Array.empty_append] at hgr ⊢
  exact⟨_,_,hr,hgr.1,hgr.2,.inr rfl⟩
 ·have hxu:∀c ∈ xs,C c:=fun c hc=>hnu c (List.mem_of_mem_take (by rw [htake];exact hc))
  by_cases hroom:n+m≤cap
  ·have hcap:(n+m)*s≤cap*s:=Nat.mul_le_mul_right _ hroom
   have hfit:n*i.size+news.length≤cur.size:=by rw [hl,hcs,hz1,←Nat.add_mul];exact hcap
   have hr:=run_append_room (P:=P) w S ty T i ht hi g n cap cur hg a m c news (by rw [hl,hz1]) hnews h1 hroom hfit;rw [hz1] at hr;refine⟨_,_,hr,⟨by rw [List.length_append,hxl,hl,Nat.add_mul],.inr ⟨g,cap,_,rfl,hbg,setRow_heap w g cur _ _ _ hg,hroom,hcm,?_,?_,?_⟩⟩,⟨rfl,rfl,rfl,by simp,fun k _ hk=>setRow_other w g k _ (fun e=>hk (by simp [Value.ownBlock,e]))⟩,.inl rfl⟩
   ·rw [Nat.add_mul] at hcap
    simp only [List.size_toArray,List.length_append,List.length_take,List.length_drop,Array.length_toList]
    omega
   ·rw [htake,show (n+m)*s=(xs ++ news).length by rw [List.length_append,hxl,hl,Nat.add_mul]]
    exact List.take_left
   ·intro c hc
    simp only [List.mem_append] at hc
    rcases hc with (hc|hc)|hc
    ·rw [htake] at hc;exact hxu c hc
    ·exact hu c hc
    ·exact hnu c (List.mem_of_mem_drop hc)
  ·have holds:∀j u,xs[j]?=some u→w.cell? ((⟨g,0,none⟩:Addr).add j)=some u:=fun j u hj=>by
    have hc:w.cell? ⟨g,j,none⟩=some u:=by
     rw [cell_of_row w g j _ _ _ hg];rw [←htake,List.getElem?_take] at hj
     split at hj
     ·simpa using hj
     ·cases hj
    by_cases h0:j=0
    ·subst h0;exact hc
    ·simpa [Addr.add,h0] using hc
   have hr:=run_append_grow (P:=P) w S ty T i z ht hi hz0 ⟨g,0,none⟩ n cap xs (by rw [hxl,hz1]) holds a m c news (by rw [hl,hz1]) hnews (by omega) (by omega) (growslice_fits (by omega) (by rw [hz2];exact hn));have hgr:=grown cap (Value.ownBlock (.slice (some ⟨g,0,none⟩) n cap)) hxl hxu;exact⟨_,_,hr,hgr.1,hgr.2,.inr rfl⟩
theorem run_appendG {P:Program} {S T:TypeId} {s bytes:Nat} {z:Value} (E:ElT P S T s bytes z) {C:Value→Prop} (hC0:∀c ∈ z.cells.toList,C c) (w:World) (B:Nat) (ty:TypeId) (v:Value) (n:Nat) (xs:List Value) (hown:OwnG w B T s C v n xs) (a:Addr) (m c:Nat) (news:List Value) (hl:news.length=m*s) (hnews:∀j u,news[j]?=some u→w.cell? (a.add j)=some u) (h1:∀u ∈ news,u.oneCell'=true) (hu:∀u ∈ news,C u) (hm:0<m) (hn:(n+m)*bytes≤140737488355328) (h63:n+m≤maxLen) (hB:B≤w.heap.size):∃v' w',(Builtin.append_ #[S,S] ty #[v,.slice (some a) m c]).run P w=.ok v' w'∧OwnG w' B T s C v' (n+m) (xs ++ news)∧w.grownBy w' v.ownBlock:=by
 obtain⟨v',w',h1',h2,h3,-⟩:=run_appendG2 E hC0 w B ty v n xs hown a m c news hl hnews h1 hu hm hn h63 hB;exact⟨v',w',h1',h2,h3⟩
theorem oper_appendG {P:Program} {o:Oper} {a:Act} {w w':World} {K:Act→World→Prop} {Q:Exit→Act→World→Prop} {T1 T2:TypeId} {ad:Addr} {m c:Nat} {v v':Value} (s x:Operand) (ho:o.op=.call { callee:=.builtin .append,args:=#[s,x],argTypes:=#[T1,T2] }) (hs:a.eval s=v) (hx:a.eval x=.slice (some ad) m c) (hr:(Builtin.append_ #[T1,T2] o.type #[v,.slice (some ad) m c]).run P w=.ok v' w') (hk:K (a.put o.dst v') w'):Oper.wp P o a w K Q:=by
 unfold Oper.wp execOp
 simp only [ho,resolve,invoke,builtin,Sem.run_bind,Sem.run_pure,Result.andThen_ok,List.map_toArray,List.map_cons,List.map_nil,hs,hx,hr]
 exact hk
theorem wpList_appendG2 {P:Program} {S T:TypeId} {sz bytes:Nat} {z:Value} (E:ElT P S T sz bytes z) {C:Value→Prop} (hC0:∀c ∈ z.cells.toList,C c) {ops:Array Oper} {rest:List Oper} {o:Oper} {a:Act} {w:World} {Q:Exit→Act→World→Prop} (hgd:o.guard=none) (s x:Operand) (ho:o.op=.call { callee:=.builtin .append,args:=#[s,x],argTypes:=#[S,S] }) (B:Nat) (v:Value) (n:Nat) (xs:List Value) (hs:a.eval s=v) (hown:OwnG w B T sz C v n xs) (ad:Addr) (m c:Nat) (news:List Value) (hx:a.eval x=.slice (some ad) m c) (hl:news.length=m*sz) (hnews:∀j u,news[j]?=some u→w.cell? (ad.add j)=some u) (h1:∀u ∈ news,u.oneCell'=true) (hu:∀u ∈ news,C u) (hm:0<m) (hn:(n+m)*bytes≤140737488355328) (h63:n+m≤maxLen) (hB:B≤w.heap.size) (h:∀v' w',OwnG w' B T sz C v' (n+m) (xs ++ news)→w.grownBy w' v.ownBlock→(v'.ownBlock=v.ownBlock∨v'.ownBlock=some w.heap.size)→wpList P ops Q rest (a.put o.dst v') w'):wpList P ops Q (o :: rest) a w:=by
 refine wpList_plain hgd fun K hK=>?_;obtain⟨v',w',hr,h2,h3,h4⟩:=run_appendG2 E hC0 w B o.type v n xs hown ad m c news hl hnews h1 hu hm hn h63 hB;exact oper_appendG s x ho hs hx hr (hK _ _ (h v' w' h2 h3 h4))
theorem OwnG.lt {w:World} {B:Nat} {T:TypeId} {s:Nat} {C:Value→Prop} {v:Value} {n:Nat} {xs:List Value} (h:OwnG w B T s C v n xs):∀k,v.ownBlock=some k→B≤k∧k<w.heap.size:=by
 intro k hk;obtain⟨-,h2⟩:=h
 rcases h2 with ⟨rfl,-⟩|⟨g,cap,cur,rfl,hb,hh,-⟩
 ·cases hk
 ·obtain rfl:g=k:=Option.some.inj hk
  exact⟨hb,lt_of_block hh⟩
theorem OwnG.mono {w w':World} {B:Nat} {T:TypeId} {s:Nat} {C:Value→Prop} {v:Value} {n:Nat} {xs:List Value} (h:OwnG w B T s C v n xs) (k:Ext w w'):OwnG w' B T s C v n xs:=by
 obtain⟨h1,h2⟩:=h;refine⟨h1,?_⟩
 rcases h2 with h2|⟨g,cap,cur,e,hb,hh,hr⟩
 ·exact .inl h2
 ·exact .inr ⟨g,cap,cur,e,hb,(k.block _ (lt_of_block hh)).trans hh,hr⟩
theorem OwnG.kind {w:World} {B:Nat} {T:TypeId} {s:Nat} {C:Value→Prop} {v:Value} {n:Nat} {xs:List Value} (h:OwnG w B T s C v n xs) {g j:Nat} (hg:v.ownBlock=some g) {c:Value} (hc:w.cell? ⟨g,j,none⟩=some c):C c:=by
 obtain⟨-,h2⟩:=h
 rcases h2 with ⟨rfl,-⟩|⟨g',cap,cur,rfl,-,hh,-,-,-,-,hnu⟩
 ·cases hg
 ·obtain rfl:g'=g:=Option.some.inj hg
  rw [cell_of_row w g' j _ _ _ hh] at hc;exact hnu _ (by rw [Array.mem_toList_iff];exact Array.mem_of_getElem? hc)
theorem ext_grownG {w0 w w':World} {u:Value} {T:TypeId} {s:Nat} {C:Value→Prop} {n:Nat} {xs:List Value} (h:Ext w0 w) (hown:OwnG w w0.heap.size T s C u n xs) (hg:w.grownBy w' u.ownBlock):Ext w0 w':=
 Below.grown h hg h.size (fun k hk=>(hown.lt k hk).1)
theorem OwnG.cells {w:World} {B:Nat} {T:TypeId} {s:Nat} {C:Value→Prop} {v:Value} {n:Nat} {xs:List Value} (h:OwnG w B T s C v n xs) (hn:0<n):∃g cap,v=.slice (some ⟨g,0,none⟩) n cap∧B≤g∧n≤cap∧∀j u,xs[j]?=some u→w.cell? ⟨g,j,none⟩=some u:=by
 obtain⟨-,h2⟩:=h
 rcases h2 with ⟨-,h0⟩|⟨g,cap,cur,rfl,hb,hg,hc,-,-,ht,-⟩
 ·omega
 ·refine⟨g,cap,rfl,hb,hc,fun j u hu=>?_⟩
  rw [cell_of_row w g j _ _ _ hg];rw [←ht,List.getElem?_take] at hu
  split at hu
  ·simpa using hu
  ·cases hu
theorem Nm.grownG {w w':World} {v u:Value} {q:Rat} {B:Nat} {T:TypeId} {s:Nat} {C:Value→Prop} {n:Nat} {xs:List Value} (h:Nm w v q) (hown:OwnG w B T s C u n xs) (hC:∀z,¬ C (.int .u64 z)) (hg:w.grownBy w' u.ownBlock):Nm w' v q:=by
 have key:∀ {vv:Value} {m:Nat},Wd w vv m→Wd w' vv m:=by
  intro vv m hw;obtain⟨A,cc,e,hc,hcl⟩:=hw;refine⟨A,cc,e,hc,?_⟩
  rcases Nat.eq_zero_or_pos (dg m).length with h0|h0
  ·left;rw [List.length_eq_zero_iff.1 h0];rfl
  ·obtain⟨bl,o,hA,hce⟩:=hcl.at_ (by simpa using h0)
   right
   refine⟨bl,o,hA,fun j hj=>hg.cell (hce j hj) fun hb=>?_⟩;have hj':j<(dg m).length:=by simpa using hj
   have h1:=hce j hj;rw [getD_map_u64 _ _ hj'] at h1;exact hC _ (hown.kind hb.symm h1)
 obtain⟨vn,vd,e,h1,h2⟩:=h;exact⟨vn,vd,e,key h1,key h2⟩
end Go.Proofs.YtaaoleakkaloeaaGreatDoor
set_option linter.unusedVariables false
set_option maxRecDepth 100000
set_option maxHeartbeats 64000000
namespace Go.Proofs.YtaaoleakkaloeaaGreatDoor
open Go.RowKit
set_option linter.unusedSimpArgs false
def isSl (c:Value):Prop:=∃A k n,c=.slice A k n
theorem info_pl:(Tryz.prog.info? 25).map (fun i=>(i.zero,i.size,i.bytes))=some (some (.slice none 0 0),1,24):=by kernel_rfl
theorem elPl:ElT Tryz.prog 77 25 1 24 (.slice none 0 0):=
 ⟨Tryz.underlying77,by obtain⟨i,hi,h1,h2,h3⟩:=info_parts info_pl;exact⟨i,hi,h1,h2,h3⟩,rfl,by decide⟩
theorem zero_sl:∀c ∈ (Value.slice none 0 0).cells.toList,isSl c:=by
 intro c hc;rw [show (Value.slice none 0 0).cells.toList=[.slice none 0 0] from rfl] at hc;rw [List.mem_singleton.1 hc];exact⟨_,_,_,rfl⟩
abbrev OwnV (w:World) (B:Nat) (v:Value) (n:Nat) (xs:List Value):Prop:=OwnG w B 25 1 isSl v n xs
theorem Pl.grownS {w w':World} {v u:Value} {l:List Rat} {B n:Nat} {xs:List Value} (h:Pl w v l) (hown:OwnV w B u n xs) (hg:w.grownBy w' u.ownBlock):Pl w' v l:=by
 obtain⟨A,cap,e,hc,hA⟩:=h;refine⟨A,cap,e,hc,?_⟩
 rcases hA with h|⟨b,o,e1,ht⟩
 ·exact .inl h
 ·refine .inr ⟨b,o,e1,fun i q hq=>?_⟩
  obtain⟨s,A1,m,ca,B1,n1,cb,h1,h2,h3,h4⟩:=ht i q hq
  have hb:some b≠u.ownBlock:=fun hb=>by
   obtain⟨A2,k2,n2,e2⟩:=hown.kind hb.symm h1
   cases e2
  exact⟨s,A1,m,ca,B1,n1,cb,hg.cell h1 hb,hg.cell h2 hb,hg.cell h3 hb,h4.grownG hown (fun z ⟨A2,k2,n2,e2⟩=>by cases e2) hg⟩
def OwnL (w:World) (B:Nat) (v:Value) (ls:List (List Rat)):Prop:=∃xs,OwnV w B v ls.length xs∧∀(i:Nat) (l:List Rat),ls[i]?=some l→∃u,xs[i]?=some u∧Pl w u l
theorem OwnL.nil (w:World) (B:Nat):OwnL w B (.slice none 0 0) []:=⟨[],OwnG.nil _ _ _ _ _,fun i l h=>by cases h⟩
theorem OwnL.mono {w w':World} {B:Nat} {v:Value} {ls:List (List Rat)} (h:OwnL w B v ls) (k:Ext w w'):OwnL w' B v ls:=by
 obtain⟨xs,h1,h2⟩:=h;exact⟨xs,h1.mono k,fun i l hl=>by obtain⟨u,e,hp⟩:=h2 i l hl;exact⟨u,e,hp.mono k⟩⟩
theorem OwnL.pll {w:World} {B:Nat} {v:Value} {ls:List (List Rat)} (h:OwnL w B v ls):PlL w v ls:=by
 obtain⟨xs,h1,h2⟩:=h
 rcases Nat.eq_zero_or_pos ls.length with h0|h0
 ·rcases h1.2 with ⟨e,-⟩|⟨g,cap,cur,e,-,-,hc,-⟩
  ·rw [List.length_eq_zero_iff.1 h0]
   exact⟨none,0,e,Nat.le_refl _,.inl ⟨rfl,rfl⟩⟩
  ·exact⟨_,cap,e,hc,.inr ⟨g,0,rfl,fun i l hl=>by rw [List.length_eq_zero_iff.1 h0] at hl;cases hl⟩⟩
 ·obtain⟨g,cap,e,-,hc,hcell⟩:=h1.cells h0
  refine⟨_,cap,e,hc,.inr ⟨g,0,rfl,fun i l hl=>?_⟩⟩;obtain⟨u,hu,hp⟩:=h2 i l hl;exact⟨u,by rw [Nat.zero_add];exact hcell _ _ hu,hp⟩
theorem OwnL.snoc {w w':World} {B:Nat} {v v' u:Value} {ls:List (List Rat)} {xs:List Value} {l:List Rat} (hown:OwnV w B v ls.length xs) (hx:∀(i:Nat) (l:List Rat),ls[i]?=some l→∃u,xs[i]?=some u∧Pl w u l) (hu:Pl w u l) (hg:w.grownBy w' v.ownBlock) (h:OwnV w' B v' (ls.length+1) (xs ++ [u])):OwnL w' B v' (ls ++ [l]):=by
 have hxl:xs.length=ls.length:=by have:=hown.1;omega
 refine⟨_,by rw [List.length_append];exact h,fun i m hm=>?_⟩
 rcases Nat.lt_or_ge i ls.length with hi|hi
 ·rw [List.getElem?_append_left hi] at hm
  obtain⟨u',e,hp⟩:=hx i m hm;exact⟨u',by rw [List.getElem?_append_left (by omega)];exact e,hp.grownS hown hg⟩
 ·rw [List.getElem?_append_right hi] at hm
  have hi0:i - ls.length=0:=by
   rcases Nat.eq_zero_or_pos (i - ls.length) with e|e
   ·exact e
   ·obtain⟨d,hd⟩:∃d,i - ls.length=d+1:=⟨i - ls.length - 1,by omega⟩
    rw [hd] at hm;simp at hm
  rw [hi0] at hm;obtain rfl:l=m:=Option.some.inj hm;exact⟨u,by rw [List.getElem?_append_right (by omega),show i - xs.length=0 by omega];rfl,hu.grownS hown hg⟩
theorem cell1_new (w:World) (a:Value) (T:TypeId):∀(j:Nat) (u:Value),[a][j]?=some u→(w.alloc (.cells #[a] T)).cell? ((⟨w.heap.size,0,none⟩:Addr).add j)=some u:=by
 intro j u hu
 match j,hu with
 | 0,hu=>obtain rfl:a=u:=Option.some.inj hu;exact(cell_of_row _ _ 0 _ _ _ (heap_alloc_new w (.cells #[a] T))).trans rfl
theorem Pl.form {w:World} {v:Value} {l:List Rat} (h:Pl w v l):∃A n c,v=.slice A n c∧l.length=n:=by
 obtain⟨A,c,e,-⟩:=h;exact⟨_,_,_,e,rfl⟩
def gcdE (p q:List Rat):List Rat × Int:=if bigF p || bigF q then ([],3) else (commonF p q,0)
theorem gcd_p (M:Nat) (hM0:0<M) (hM:M≤137438953472) (vp vq:Value) (p q:List Rat) (hlp:p.length≤100000) (hlq:q.length≤100000) (w:World) (hp:Pl w vp p) (hq:Pl w vq q) (hok:(bigF p || bigF q)=false→comOk M p q=true) (D:List Rat × Int) (hD:gcdE p q=D):Calls Tryz.prog 23 #[vp,vq] w fun e w'=>∃v1,e=.returned (.tuple #[v1,.int .i64 D.2])∧Pl w' v1 D.1∧Ext w w':=by
 have HP:=ZZ hp;have HQ:=ZZ hq;have HLP:=ZZ hlp;have HLQ:=ZZ hlq;have HOK:=ZZ hok;have HM0:=ZZ hM0;have HM:=ZZ hM;have HD:=ZZ hD;obtain⟨A,n,c,rfl,-⟩:=hp.form;obtain⟨A',n',c',rfl,-⟩:=hq.form;obtain⟨b,hb⟩:∃b,(bigF p || bigF q)=b:=⟨_,rfl⟩;have HB:=ZZ (show [p,q].any bigF=b by rw [←hb];simp);have HB0:=ZZ hb;have HL2:=ZZ (pll_two hp hq);clear hp hq hlp hlq hok hM0 hM hb hD
 go_enter Tryz.func23,Tryz.ntmps23
 go_wp2_with fail
 refine(long_p _ [p,q] (by simp) (fun l hl=>by
  have h1:=HLP.out;have h2:=HLQ.out
  rcases List.mem_cons.1 hl with e|hl
  ·rw [e];omega
  ·rw [List.mem_singleton.1 hl];omega) _ HL2.out b HB.out).mono ?_
 rintro e w3 ⟨rfl,k3⟩;have K3:=ZZ (al (ac _ _) k3);clear k3
 cases b with
 | true=>
  obtain rfl:(([],3):List Rat × Int)=D:=by rw [←HD.out];unfold gcdE;rw [HB0.out];rfl
  go_wp2_with fail;refine bodyPost_ret (v:=.tuple #[.slice none 0 0,.int .i64 3]) (by simp [results,Tryz.f23]) rfl ?_
  exact⟨_,rfl,Pl.nil _,K3.out⟩
 | false=>
  obtain rfl:(commonF p q,0)=D:=by rw [←HD.out];unfold gcdE;rw [HB0.out];rfl
  go_wp2_with fail;refine(common_p M HM0.out HM.out _ _ p q HLP.out HLQ.out _ (HP.out.mono K3.out) (HQ.out.mono K3.out) (HOK.out HB0.out)).mono ?_
  rintro e w5 ⟨v5,rfl,h5,k5⟩;have H5:=ZZ h5;have K5:=ZZ (al K3.out k5);clear h5 k5;go_wp2_with fail;refine bodyPost_ret (v:=.tuple #[v5,.int .i64 0]) (by simp [results,Tryz.f23]) rfl ?_;exact⟨_,rfl,H5.out,K5.out⟩
end Go.Proofs.YtaaoleakkaloeaaGreatDoor
