/- Slices of spans of the call's own; Roots. Printed by gen_yp.py. -/
import Derived.Test.YtkoaakefgacokaaGreatDoorGYo
import Derived.WalkMore
import Derived.Scope
set_option linter.unusedVariables false
set_option linter.unusedSimpArgs false
set_option maxRecDepth 100000
set_option maxHeartbeats 64000000
namespace Go.Proofs.YtkoaakefgacokaaGreatDoor
open Go.RowKit
theorem info_sp:(Tryz.prog.info? 40).map (fun i=>(i.zero,i.size,i.bytes))=some (some (.agg #[.bool false,.slice none 0 0,.slice none 0 0,.bool false,.slice none 0 0,.slice none 0 0]),6,112):=by kernel_rfl
theorem elSp:ElT Tryz.prog 52 40 6 112 (.agg #[.bool false,.slice none 0 0,.slice none 0 0,.bool false,.slice none 0 0,.slice none 0 0]):=
 ⟨Tryz.underlying52,by obtain⟨i,hi,h1,h2,h3⟩:=info_parts info_sp;exact⟨i,hi,h1,h2,h3⟩,rfl,by decide⟩
theorem zero_sp:∀c ∈ (Value.agg #[.bool false,.slice none 0 0,.slice none 0 0,.bool false,.slice none 0 0,.slice none 0 0]).cells.toList,NotU c:=by
 intro c hc z e;rw [show (Value.agg #[.bool false,.slice none 0 0,.slice none 0 0,.bool false,.slice none 0 0,.slice none 0 0]).cells.toList=[.bool false,.slice none 0 0,.slice none 0 0,.bool false,.slice none 0 0,.slice none 0 0] from rfl] at hc;subst e
 simp at hc
theorem notU6 {s A k ca B l cb s' A' k' ca' B' l' cb':_}:∀u ∈ [Value.bool s,.slice A k ca,.slice B l cb,.bool s',.slice A' k' ca',.slice B' l' cb'],NotU u:=by
 intro u hu z e;subst e;simp at hu
theorem one6 {s A k ca B l cb s' A' k' ca' B' l' cb':_}:∀u ∈ [Value.bool s,.slice A k ca,.slice B l cb,.bool s',.slice A' k' ca',.slice B' l' cb'],u.oneCell'=true:=by
 intro u hu;simp at hu;rcases hu with rfl|rfl|rfl|rfl|rfl|rfl <;> rfl
abbrev OwnX (w:World) (B:Nat) (v:Value) (n:Nat) (xs:List Value):Prop:=OwnG w B 40 6 NotU v n xs
def SpX (w:World) (xs:List Value) (i:Nat) (a:Rat × Rat):Prop:=∃s A k ca B l cb s' A' k' ca' B' l' cb',xs[i*6]?=some (.bool s)∧xs[i*6+1]?=some (.slice A k ca)∧xs[i*6+2]?=some (.slice B l cb)∧xs[i*6+3]?=some (.bool s')∧xs[i*6+4]?=some (.slice A' k' ca')∧xs[i*6+5]?=some (.slice B' l' cb')∧Sp w (.agg #[.bool s,.slice A k ca,.slice B l cb,.bool s',.slice A' k' ca',.slice B' l' cb']) a.1 a.2
def OwnSp (w:World) (B:Nat) (v:Value) (l:List (Rat × Rat)):Prop:=∃xs,OwnX w B v l.length xs∧∀(i:Nat) (a:Rat × Rat),l[i]?=some a→SpX w xs i a
theorem Sp.grownX {w w':World} {v u:Value} {lo hi:Rat} {B n:Nat} {xs:List Value} (h:Sp w v lo hi) (hown:OwnX w B u n xs) (hg:w.grownBy w' u.ownBlock):Sp w' v lo hi:=by
 obtain⟨x0,x1,x2,y0,y1,y2,e,h1,h2⟩:=h;exact⟨x0,x1,x2,y0,y1,y2,e,h1.grownG hown (fun z hz=>hz z rfl) hg,h2.grownG hown (fun z hz=>hz z rfl) hg⟩
theorem SpX.mono {w w':World} {xs:List Value} {i:Nat} {a:Rat × Rat} (h:SpX w xs i a) (k:∀v,Sp w v a.1 a.2→Sp w' v a.1 a.2):SpX w' xs i a:=by
 obtain⟨s,A,k1,ca,B,l,cb,s',A',k',ca',B',l',cb',h0,h1,h2,h3,h4,h5,h6⟩:=h;exact⟨s,A,k1,ca,B,l,cb,s',A',k',ca',B',l',cb',h0,h1,h2,h3,h4,h5,k _ h6⟩
theorem SpX.left {w:World} {xs ys:List Value} {i:Nat} {a:Rat × Rat} (h:SpX w xs i a):SpX w (xs ++ ys) i a:=by
 obtain⟨s,A,k1,ca,B,l,cb,s',A',k',ca',B',l',cb',h0,h1,h2,h3,h4,h5,h6⟩:=h
 have key:∀(j:Nat) (u:Value),xs[j]?=some u→(xs ++ ys)[j]?=some u:=fun j u hu=>by
  rw [List.getElem?_append_left (List.getElem?_eq_some_iff.1 hu).1];exact hu
 exact⟨s,A,k1,ca,B,l,cb,s',A',k',ca',B',l',cb',key _ _ h0,key _ _ h1,key _ _ h2,key _ _ h3,key _ _ h4,key _ _ h5,h6⟩
theorem OwnSp.nil (w:World) (B:Nat):OwnSp w B (.slice none 0 0) []:=⟨[],OwnG.nil _ _ _ _ _,fun i a h=>by cases h⟩
theorem OwnSp.mono {w w':World} {B:Nat} {v:Value} {l:List (Rat × Rat)} (h:OwnSp w B v l) (k:Ext w w'):OwnSp w' B v l:=by
 obtain⟨xs,h1,h2⟩:=h;exact⟨xs,h1.mono k,fun i a ha=>(h2 i a ha).mono fun v hv=>hv.mono k⟩
theorem OwnSp.keep {w w':World} {B C n:Nat} {v u:Value} {l:List (Rat × Rat)} {ys:List Value} (h:OwnSp w B v l) (hown:OwnX w C u n ys) (hg:w.grownBy w' u.ownBlock) (hd:∀g,v.ownBlock=some g→u.ownBlock≠some g):OwnSp w' B v l:=by
 obtain⟨xs,h1,h2⟩:=h;refine⟨xs,h1.other fun g hgv=>hg.block g (h1.lt g hgv).2 (fun e=>hd g hgv e.symm),fun i a ha=>(h2 i a ha).mono fun v hv=>hv.grownX hown hg⟩
theorem spx_at {w:World} {xs:List Value} {n:Nat} {s A k ca B l cb s' A' k' ca' B' l' cb':_} {a:Rat × Rat} (hx:xs.length=n*6) (ys:List Value) (h:Sp w (.agg #[.bool s,.slice A k ca,.slice B l cb,.bool s',.slice A' k' ca',.slice B' l' cb']) a.1 a.2):SpX w (xs ++ ([.bool s,.slice A k ca,.slice B l cb,.bool s',.slice A' k' ca',.slice B' l' cb'] ++ ys)) n a:=by
 refine⟨s,A,k,ca,B,l,cb,s',A',k',ca',B',l',cb',?_,?_,?_,?_,?_,?_,h⟩
 ·rw [List.getElem?_append_right (by omega),show n*6 - xs.length=0 by omega];rfl
 ·rw [List.getElem?_append_right (by omega),show n*6+1 - xs.length=1 by omega];rfl
 ·rw [List.getElem?_append_right (by omega),show n*6+2 - xs.length=2 by omega];rfl
 ·rw [List.getElem?_append_right (by omega),show n*6+3 - xs.length=3 by omega];rfl
 ·rw [List.getElem?_append_right (by omega),show n*6+4 - xs.length=4 by omega];rfl
 ·rw [List.getElem?_append_right (by omega),show n*6+5 - xs.length=5 by omega];rfl
theorem snoc_cases {α:Type} {l:List α} {a b:α} {i:Nat} (h:(l ++ [a])[i]?=some b):(l[i]?=some b)∨(i=l.length∧a=b):=by
 rcases Nat.lt_or_ge i l.length with hi|hi
 ·rw [List.getElem?_append_left hi] at h;exact .inl h
 ·rw [List.getElem?_append_right hi] at h
  rcases Nat.eq_zero_or_pos (i - l.length) with e|e
  ·rw [e] at h;exact .inr ⟨by omega,Option.some.inj h⟩
  ·obtain⟨d,hd⟩:∃d,i - l.length=d+1:=⟨i - l.length - 1,by omega⟩
   rw [hd] at h;simp at h
theorem OwnSp.snoc {w w':World} {B:Nat} {v v':Value} {l:List (Rat × Rat)} {xs:List Value} {s A k ca C m cb s' A' k' ca' C' m' cb':_} {a:Rat × Rat} (hown:OwnX w B v l.length xs) (hx:∀(i:Nat) (a:Rat × Rat),l[i]?=some a→SpX w xs i a) (ha:Sp w (.agg #[.bool s,.slice A k ca,.slice C m cb,.bool s',.slice A' k' ca',.slice C' m' cb']) a.1 a.2) (hg:w.grownBy w' v.ownBlock) (h:OwnX w' B v' (l.length+1) (xs ++ [.bool s,.slice A k ca,.slice C m cb,.bool s',.slice A' k' ca',.slice C' m' cb'])):OwnSp w' B v' (l ++ [a]):=by
 refine⟨_,by rw [List.length_append];exact h,fun i b hb=>?_⟩
 rcases snoc_cases hb with hb|⟨rfl,rfl⟩
 ·exact((hx i b hb).left).mono fun v hv=>hv.grownX hown hg
 ·have:=spx_at (w:=w') hown.1 [] (ha.grownX hown hg)
  simpa using this
theorem OwnSp.snoc2 {w w':World} {B:Nat} {v v':Value} {l:List (Rat × Rat)} {xs:List Value} {s A k ca C m cb s' A' k' ca' C' m' cb' t D j da E i' eb t' D' j' da' E' i2 eb':_} {a b:Rat × Rat} (hown:OwnX w B v l.length xs) (hx:∀(i:Nat) (a:Rat × Rat),l[i]?=some a→SpX w xs i a) (ha:Sp w (.agg #[.bool s,.slice A k ca,.slice C m cb,.bool s',.slice A' k' ca',.slice C' m' cb']) a.1 a.2) (hb:Sp w (.agg #[.bool t,.slice D j da,.slice E i' eb,.bool t',.slice D' j' da',.slice E' i2 eb']) b.1 b.2) (hg:w.grownBy w' v.ownBlock) (h:OwnX w' B v' (l.length+2) (xs ++ [.bool s,.slice A k ca,.slice C m cb,.bool s',.slice A' k' ca',.slice C' m' cb',.bool t,.slice D j da,.slice E i' eb,.bool t',.slice D' j' da',.slice E' i2 eb'])):OwnSp w' B v' (l ++ [a] ++ [b]):=by
 have hxl:=hown.1;refine⟨_,by rw [List.length_append,List.length_append];exact h,fun i c hc=>?_⟩
 rcases snoc_cases hc with hc|⟨e1,rfl⟩
 ·rcases snoc_cases hc with hc|⟨rfl,rfl⟩
  ·exact((hx i c hc).left).mono fun v hv=>hv.grownX hown hg
  ·exact spx_at (w:=w') hxl [.bool t,.slice D j da,.slice E i' eb,.bool t',.slice D' j' da',.slice E' i2 eb'] (ha.grownX hown hg)
 ·rw [List.length_append,List.length_singleton] at e1
  subst e1
  have:=spx_at (w:=w') (xs:=xs ++ [.bool s,.slice A k ca,.slice C m cb,.bool s',.slice A' k' ca',.slice C' m' cb']) (n:=l.length+1) (by rw [List.length_append,hxl];simp;omega) [] (hb.grownX hown hg)
  simpa using this
theorem OwnSp.pop {w:World} {B n:Nat} {A:Option Addr} {c:Nat} {l:List (Rat × Rat)} {a:Rat × Rat} (h:OwnSp w B (.slice A n c) (l ++ [a])):OwnSp w B (.slice A l.length c) l:=by
 obtain⟨xs,h1,h2⟩:=h;rw [List.length_append,List.length_singleton] at h1;refine⟨xs.take (l.length*6),⟨by rw [List.length_take,h1.1];omega,?_⟩,fun i b hb=>?_⟩
 ·rcases h1.2 with ⟨-,h0⟩|⟨g,cap,cur,e,hb,hh,hc,hm,hs,ht,hk⟩
  ·omega
  ·injection e with e1 e2 e3
   refine .inr ⟨g,cap,cur,by rw [e1,e3],hb,hh,by omega,hm,hs,?_,hk⟩;rw [←ht,List.take_take]
   congr 1
   omega
 ·have hlt:=(List.getElem?_eq_some_iff.1 hb).1
  obtain⟨s,A1,k1,ca,B1,l1,cb,s',A',k',ca',B',l',cb',x0,x1,x2,x3,x4,x5,x6⟩:=h2 i b (by rw [List.getElem?_append_left hlt];exact hb)
  have key:∀(r:Nat) (u:Value),r<6→xs[i*6+r]?=some u→(xs.take (l.length*6))[i*6+r]?=some u:=fun r u hr hu=>by
   rw [List.getElem?_take,if_pos (by omega)];exact hu
  exact⟨s,A1,k1,ca,B1,l1,cb,s',A',k',ca',B',l',cb',key 0 _ (by decide) x0,key 1 _ (by decide) x1,key 2 _ (by decide) x2,key 3 _ (by decide) x3,key 4 _ (by decide) x4,key 5 _ (by decide) x5,x6⟩
theorem OwnSp.last {w:World} {B n:Nat} {A:Option Addr} {c:Nat} {l:List (Rat × Rat)} {a:Rat × Rat} (h:OwnSp w B (.slice A n c) (l ++ [a])):∃g s A1 k ca B1 m cb s' A' k' ca' B' m' cb',A=some ⟨g,0,none⟩∧l.length+1≤c∧w.cell? ⟨g,l.length*6,none⟩=some (.bool s)∧w.cell? ⟨g,l.length*6+1,none⟩=some (.slice A1 k ca)∧w.cell? ⟨g,l.length*6+2,none⟩=some (.slice B1 m cb)∧w.cell? ⟨g,l.length*6+3,none⟩=some (.bool s')∧w.cell? ⟨g,l.length*6+4,none⟩=some (.slice A' k' ca')∧w.cell? ⟨g,l.length*6+5,none⟩=some (.slice B' m' cb')∧Sp w (.agg #[.bool s,.slice A1 k ca,.slice B1 m cb,.bool s',.slice A' k' ca',.slice B' m' cb']) a.1 a.2:=by
 obtain⟨xs,h1,h2⟩:=h;rw [List.length_append,List.length_singleton] at h1;obtain⟨g,cap,e,-,hc,hcell⟩:=h1.cells (by omega)
 injection e with e1 e2 e3
 obtain⟨s,A1,k1,ca,B1,l1,cb,s',A',k',ca',B',l',cb',x0,x1,x2,x3,x4,x5,x6⟩:=h2 l.length a (by rw [List.getElem?_append_right (Nat.le_refl _),Nat.sub_self];rfl);exact⟨g,s,A1,k1,ca,B1,l1,cb,s',A',k',ca',B',l',cb',e1,by omega,hcell _ _ x0,hcell _ _ x1,hcell _ _ x2,hcell _ _ x3,hcell _ _ x4,hcell _ _ x5,x6⟩
def SpL (w:World) (v:Value) (l:List (Rat × Rat)):Prop:=∃A cap,v=.slice A l.length cap∧l.length≤cap∧((A=none∧l=[])∨∃b,A=some ⟨b,0,none⟩∧∀(i:Nat) (a:Rat × Rat),l[i]?=some a→∃s A1 k ca B1 m cb s' A' k' ca' B' m' cb',w.cell? ⟨b,i*6,none⟩=some (.bool s)∧w.cell? ⟨b,i*6+1,none⟩=some (.slice A1 k ca)∧w.cell? ⟨b,i*6+2,none⟩=some (.slice B1 m cb)∧w.cell? ⟨b,i*6+3,none⟩=some (.bool s')∧w.cell? ⟨b,i*6+4,none⟩=some (.slice A' k' ca')∧w.cell? ⟨b,i*6+5,none⟩=some (.slice B' m' cb')∧Sp w (.agg #[.bool s,.slice A1 k ca,.slice B1 m cb,.bool s',.slice A' k' ca',.slice B' m' cb']) a.1 a.2)
theorem OwnSp.spl {w:World} {B:Nat} {v:Value} {l:List (Rat × Rat)} (h:OwnSp w B v l):SpL w v l:=by
 obtain⟨xs,h1,h2⟩:=h
 rcases Nat.eq_zero_or_pos l.length with h0|h0
 ·have hl:=List.length_eq_zero_iff.1 h0
  rcases h1.2 with ⟨e,-⟩|⟨g,cap,cur,e,-,-,hc,-⟩
  ·rw [hl];exact⟨none,0,e,Nat.le_refl _,.inl ⟨rfl,rfl⟩⟩
  ·exact⟨_,cap,e,hc,.inr ⟨g,rfl,fun i a ha=>by rw [hl] at ha;cases ha⟩⟩
 ·obtain⟨g,cap,e,-,hc,hcell⟩:=h1.cells h0
  refine⟨_,cap,e,hc,.inr ⟨g,rfl,fun i a ha=>?_⟩⟩;obtain⟨s,A1,k1,ca,B1,l1,cb,s',A',k',ca',B',l',cb',x0,x1,x2,x3,x4,x5,x6⟩:=h2 i a ha;exact⟨s,A1,k1,ca,B1,l1,cb,s',A',k',ca',B',l',cb',hcell _ _ x0,hcell _ _ x1,hcell _ _ x2,hcell _ _ x3,hcell _ _ x4,hcell _ _ x5,x6⟩
theorem SpL.mono {w w':World} {v:Value} {l:List (Rat × Rat)} (h:SpL w v l) (k:Ext w w'):SpL w' v l:=by
 obtain⟨A,cap,e,hc,hA⟩:=h;refine⟨A,cap,e,hc,?_⟩
 rcases hA with h|⟨b,e1,h⟩
 ·exact .inl h
 ·refine .inr ⟨b,e1,fun i a ha=>?_⟩
  obtain⟨s,A1,k1,ca,B1,l1,cb,s',A',k',ca',B',l',cb',x0,x1,x2,x3,x4,x5,x6⟩:=h i a ha;exact⟨s,A1,k1,ca,B1,l1,cb,s',A',k',ca',B',l',cb',ao k x0,ao k x1,ao k x2,ao k x3,ao k x4,ao k x5,x6.mono k⟩
theorem spN_new (w:World) (cs:List Value):∀(j:Nat) (u:Value),cs[j]?=some u→(w.alloc (.cells cs.toArray 40)).cell? ((⟨w.heap.size,0,none⟩:Addr).add j)=some u:=by
 intro j u hu;have h:=heap_alloc_new w (.cells cs.toArray 40)
 have hc:(w.alloc (.cells cs.toArray 40)).cell? ⟨w.heap.size,j,none⟩=some u:=by
  rw [cell_of_row _ _ j _ _ _ h];simpa using hu
 by_cases h0:j=0
 ·subst h0;exact hc
 ·simpa [Addr.add,h0] using hc
theorem own_one6 {w:World} {B:Nat} {a:Rat × Rat} {s A k ca C m cb s' A' k' ca' C' m' cb':_} (hB:B≤w.heap.size) (h:Sp w (.agg #[.bool s,.slice A k ca,.slice C m cb,.bool s',.slice A' k' ca',.slice C' m' cb']) a.1 a.2):OwnSp (w.alloc (.cells #[.bool s,.slice A k ca,.slice C m cb,.bool s',.slice A' k' ca',.slice C' m' cb'] 40)) B (.slice (some ⟨w.heap.size,0,none⟩) 1 1) [a]:=by
 refine⟨[.bool s,.slice A k ca,.slice C m cb,.bool s',.slice A' k' ca',.slice C' m' cb'],⟨rfl,.inr ⟨w.heap.size,1,_,rfl,hB,heap_alloc_new w _,Nat.le_refl _,by unfold maxLen;omega,rfl,rfl,notU6⟩⟩,fun i b hb=>?_⟩
 match i,hb with
 | 0,hb=>
  obtain rfl:a=b:=Option.some.inj hb;exact⟨s,A,k,ca,C,m,cb,s',A',k',ca',C',m',cb',rfl,rfl,rfl,rfl,rfl,rfl,h.mono (ab _ _)⟩
theorem OwnSp.lt {w:World} {B:Nat} {v:Value} {l:List (Rat × Rat)} (h:OwnSp w B v l):∀k,v.ownBlock=some k→B≤k∧k<w.heap.size:=by
 obtain⟨xs,h1,-⟩:=h;exact h1.lt
theorem noU6_row {W:World} {g:Nat} {s:Bool} {A:Option Addr} {k ca:Nat} {B:Option Addr} {l cb:Nat} {s':Bool} {A':Option Addr} {k' ca':Nat} {B':Option Addr} {l' cb':Nat} {T:TypeId} (h:W.heap[g]?=some (.cells #[.bool s,.slice A k ca,.slice B l cb,.bool s',.slice A' k' ca',.slice B' l' cb'] T (0,0))):NoU W g 6:=by
 intro j z hj he;rw [cell_of_row W g j _ _ _ h] at he
 match j,hj with
 | 0,_=>cases he
 | 1,_=>cases he
 | 2,_=>cases he
 | 3,_=>cases he
 | 4,_=>cases he
 | 5,_=>cases he
theorem nm_put6 {W:World} {v:Value} {q:Rat} {g:Nat} {cs:Array Value} {T:TypeId} (h:Nm W v q) (hn:NoU W g 6) (hr:W.heap[g]?=some (.cells cs T (0,0))) (a b c:Value):Nm (put3at W g 0 a b c) v q:=
 h.keepC hn (fun b' j hne=>put3at_cell hr a b c b' j (by rcases hne with e|e;exact .inl e;exact .inr (by omega)))
theorem sp_put6 {W:World} {v:Value} {lo hi:Rat} {g:Nat} {cs:Array Value} {T:TypeId} (h:Sp W v lo hi) (hn:NoU W g 6) (hr:W.heap[g]?=some (.cells cs T (0,0))) (a b c:Value):Sp (put3at W g 0 a b c) v lo hi:=by
 obtain⟨x0,x1,x2,y0,y1,y2,e,h1,h2⟩:=h;exact⟨x0,x1,x2,y0,y1,y2,e,nm_put6 h1 hn hr a b c,nm_put6 h2 hn hr a b c⟩
theorem OwnSp.put6 {W:World} {B:Nat} {v:Value} {l:List (Rat × Rat)} {g:Nat} {cs:Array Value} {T:TypeId} (h:OwnSp W B v l) (hn:NoU W g 6) (hr:W.heap[g]?=some (.cells cs T (0,0))) (hne:∀r,v.ownBlock=some r→r≠g) (a b c:Value):OwnSp (put3at W g 0 a b c) B v l:=by
 obtain⟨xs,h1,h2⟩:=h;exact⟨xs,h1.other fun r hr=>put3b_other a b c (hne r hr),fun i a' ha=>(h2 i a' ha).mono fun v hv=>sp_put6 hv hn hr a b c⟩
theorem put6a_row {W:World} {g:Nat} {x0 x1 x2 x3 x4 x5:Value} {T:TypeId} (hr:W.heap[g]?=some (.cells #[x0,x1,x2,x3,x4,x5] T (0,0))) (a b c:Value):(put3at W g 0 a b c).heap[g]?=some (.cells #[a,b,c,x3,x4,x5] T (0,0)):=by
 have h:=put3at_row (j:=0) hr a b c
 simpa using h
def startU (p:List Rat):Nat→Nat→Nat
 | 0,k=>k
 | n+1,k=>if powF k<boundF p then startU p n (k+1) else k
def startB (p:List Rat):Nat→Nat→Bool
 | 0,k=>!decide (powF k<boundF p)
 | n+1,k=>if powF k<boundF p then startB p n (k+1) else true
def oneR (p:List Rat) (c:List (List Rat)) (width:Rat) (a:Rat × Rat):Bool:=decide (betweenF c a.1 a.2=1) && !decide (width<absQ (a.2 - a.1)) && !decide ((evR p a.1).num.sign=0)
def rootsU (p:List Rat) (c:List (List Rat)) (width:Rat):Nat→List (Rat × Rat)→List (Rat × Rat)→List (Rat × Rat)
 | 0,_,out=>out
 | _+1,[],out=>out
 | n+1,a :: st,out=>
  if betweenF c a.1 a.2=0 then rootsU p c width n st out
  else if oneR p c width a then rootsU p c width n st (out ++ [if (evR p a.2).num.sign=0 then (a.2,a.2) else a])
  else rootsU p c width n ((a.1,shQ (a.1+a.2) (-1)) :: (shQ (a.1+a.2) (-1),a.2) :: st) out
def rootsB (M:Nat) (p:List Rat) (c:List (List Rat)) (width:Rat):Nat→List (Rat × Rat)→Nat→Bool
 | 0,st,_=>st.isEmpty
 | _+1,[],_=>true
 | n+1,a :: st,o=>smB M [a.1,a.2,shQ (a.1+a.2) (-1)] && decide (st.length≤1000000000) && decide (o≤10000) &&
  if betweenF c a.1 a.2=0 then rootsB M p c width n st o
  else if oneR p c width a then rootsB M p c width n st (o+1)
  else rootsB M p c width n ((a.1,shQ (a.1+a.2) (-1)) :: (shQ (a.1+a.2) (-1),a.2) :: st) o
def widthF (bits:Int):Rat:=powF (-(min (max bits 0) 1000))
def rootsF (F L:Nat) (p:List Rat) (bits:Int):List (Rat × Rat):=rootsU p (ownF p) (widthF bits) L [(-(powF (startU p F 0)),powF (startU p F 0))] []
def rootsOk (M F L:Nat) (p:List Rat) (bits:Int):Bool:=decide (F≤90000) && boundOk M p && !(monicF p).isEmpty && startB p F 0 && ownOk M p && smB M p && rootsB M p (ownF p) (widthF bits) L [(-(powF (startU p F 0)),powF (startU p F 0))] 0
def rootsE (F L:Nat) (p:List Rat) (bits:Int):List (Rat × Rat) × Int:=if askF p=0 then (rootsF F L p bits,0) else ([],askF p)
theorem roots_p (M F L:Nat) (hM0:1100<M) (hM:M≤4294867000) (vp:Value) (p:List Rat) (bits:Int) (hbits:-9223372036854775808≤bits∧bits<9223372036854775808) (hlp:p.length≤100) (w:World) (hp:Pl w vp p) (hok:askF p=0→rootsOk M F L p bits=true) (D:List (Rat × Rat) × Int) (hD:rootsE F L p bits=D):Calls Tryz.prog 16 #[vp,.int .i64 bits] w fun e w'=>∃v,e=.returned (.tuple #[v,.int .i64 D.2])∧SpL w' v D.1∧Ext w w':=by
 obtain⟨z,hz⟩:∃z,askF p=z:=⟨_,rfl⟩;have HZ:=ZZ hz;have HP:=ZZ hp;have HLP:=ZZ hlp;have HM0:=ZZ hM0;have HM:=ZZ hM;have HOK:=ZZ hok;have HD:=ZZ hD;have HBI:=ZZ hbits;clear hz hp hlp hM0 hM hok hD hbits
 go_enter Tryz.func16,Tryz.ntmps16
 go_wp2_with fail
 go_step3
 go_wp2_with fail;refine(asked_p _ p (by have:=HLP.out;omega) _ HP.out z HZ.out).mono ?_
 rintro e w1 ⟨rfl,kk1⟩;have K1:=ZZ kk1;clear kk1
 by_cases h0:z=0
 ·subst h0
  have hok:=HOK.out HZ.out;unfold rootsOk at hok
  simp only [Bool.and_eq_true] at hok
  obtain⟨⟨⟨⟨⟨⟨o1,o2⟩,o3⟩,o4⟩,o5⟩,o6⟩,o7⟩:=hok;obtain⟨C,hC⟩:∃C,ownF p=C:=⟨_,rfl⟩;obtain⟨wd,hwd⟩:∃x,widthF bits=x:=⟨_,rfl⟩;obtain⟨KK,hKK⟩:∃k,startU p F 0=k:=⟨_,rfl⟩;obtain⟨pk,hpk⟩:∃x,powF KK=x:=⟨_,rfl⟩;obtain⟨DD,hDD⟩:∃d,rootsU p C wd L [(-pk,pk)] []=d:=⟨_,rfl⟩;have HDE:=ZZ (show D=(DD,0) from by rw [←HD.out];unfold rootsE rootsF;rw [if_pos HZ.out,hC,hwd,hKK,hpk,hDD]);rw [hC,hwd,hKK,hpk] at o7;have P1:=ZZ (of_decide_eq_true o1);have P2:=ZZ o2;have P3:=ZZ (ne_of_emp o3);have P4:=ZZ o4;have P5:=ZZ o5;have P6:=ZZ (sm_of o6);have P7:=ZZ o7;have HCB:=ZZ (show cB M C=true from by have h:=o5;unfold ownOk at h;rw [Bool.and_eq_true,hC] at h;exact h.2);have HC0:=ZZ hC;have HWD:=ZZ hwd;have HKK:=ZZ hKK;have HPK:=ZZ hpk;have HDD:=ZZ hDD;have HCL:=ZZ (show C.length≤1000000 from by rw [←hC];exact Nat.le_trans (own_len p) (by have:=HLP.out;omega))
  have BBD:=ZZ (show Bq (M+65) (boundF p) from by
   unfold boundF;have h2:=o2;unfold boundOk at h2;rw [Bool.and_eq_true] at h2;exact(bq_most (by have:=HM0.out;omega) (sm_of h2.2) _).add (show Bq 64 (1:Rat) from bq_int 1 (by decide) (by decide)))
  clear o1 o2 o3 o4 o5 o6 o7 hC hwd hKK hpk hDD;go_wp2_with fail
  go_loopg [7] F (fun f kv wr=>∃k:Nat,kv=.int .i64 (k:Int)∧Hid (startB p f k=true)∧Hid (startU p f k=KK)∧Hid (k+f≤F)∧Hid (Ext w wr))
  case atStart=>exact⟨0,rfl,P4,HKK,ZZ (by omega),K1⟩
  case round=>
   obtain⟨k,rfl,HSB,HSU,HKF,HE⟩:=hrel;rename World=>WR;go_wp2_with fail;refine(power_p (k:Int) (by rw [Int.natAbs_natCast];have:=HKF.out;have:=P1.out;omega) _).mono ?_;rintro e w3 ⟨v3,rfl,h3,kk3⟩;have H3:=ZZ h3;have K3:=ZZ kk3;clear h3 kk3;go_wp2_with fail;refine(bound_p M (by have:=HM0.out;omega) (by have:=HM.out;omega) _ p (by have:=HLP.out;omega) _ (HP.out.mono (al HE.out K3.out)) P3.out P2.out).mono ?_;rintro e w4 ⟨v4,rfl,h4,kk4⟩;have H4:=ZZ h4;have H3b:=ZZ (H3.out.mono kk4);have K4:=ZZ (al K3.out kk4);clear h4 kk4 H3;obtain⟨c,hc⟩:∃c,cmpQ (powF k) (boundF p)=c:=⟨_,rfl⟩;have HCC:=ZZ hc;clear hc;go_wp2_with fail;refine(cmp_q (M+100065) (by have:=HM.out;omega) _ _ (powF k) (boundF p) _ H3b.out H4.out ((bq_powF k).mono (by rw [Int.natAbs_natCast];have:=HKF.out;have:=P1.out;omega)) (BBD.out.mono (by omega))).mono ?_;rintro e w5 ⟨rfl,kk5⟩;rw [HCC.out];have K5:=ZZ (al K4.out kk5);clear kk5
   by_cases hlt:powF k<boundF p
   ·have q1:decide (c<0)=true:=by rw [←HCC.out,(cmpQ_neg _ _).2 hlt];rfl
    obtain⟨fo,rfl⟩:∃j,gk=j+1:=⟨gk - 1,by
     rcases Nat.eq_zero_or_pos gk with h|h
     ·subst h
      have h1:(!decide (powF k<boundF p))=true:=HSB.out;rw [decide_eq_true hlt] at h1;cases h1
     ·omega⟩
    have HS2:=ZZ (show startB p fo (k+1)=true from by have h:=HSB.out;unfold startB at h;rw [if_pos hlt] at h;exact h);have HU2:=ZZ (show startU p fo (k+1)=KK from by have h:=HSU.out;unfold startU at h;rw [if_pos hlt] at h;exact h);clear hlt;go_wp2_with fail
    go_roundg fo
    case measure=>omega
    case rel=>exact⟨k+1,by have h1:=HKF.out;have h2:=P1.out;rw [IntWalk.wrap64_in _ ⟨by omega,by omega⟩];rfl,HS2,HU2,ZZ (by have:=HKF.out;omega),ZZ (al HE.out K5.out)⟩
   ·have q1:decide (c<0)=false:=by
     refine decide_eq_false fun h=>hlt ((cmpQ_neg _ _).1 ?_);rw [HCC.out];have h2:=HCC.out;unfold cmpQ at h2;have h3:=Int.sign_trichotomy ((powF k).num*↑(boundF p).den - (boundF p).num*↑(powF k).den);omega
    obtain rfl:k=KK:=by
     rw [←HSU.out]
     cases gk with
     | zero=>rfl
     | succ j=>unfold startU;rw [if_neg hlt]
    clear hlt;obtain⟨mm,hmm⟩:∃m,min (max bits 0) 1000=m:=⟨_,rfl⟩;have hmb:0≤mm∧mm≤1000:=by omega
    obtain⟨mx,hmx⟩:∃m,max bits 0=m:=⟨_,rfl⟩;rw [hmx] at hmm;have q2:IntKind.i64.wrap (-mm) = -mm:=IntWalk.i64_in _ (by omega);have HWB:=ZZ (show widthF bits=powF (-mm) by unfold widthF;rw [hmx,hmm]);have HMB:=ZZ hmb;clear hmb;go_wp2_with fail;refine(power_p (-mm) (by have:=HMB.out;omega) _).mono ?_;rintro e w6 ⟨v6,rfl,h6,kk6⟩;obtain⟨s6,A6,k6,ca6,B6,l6,cb6,rfl⟩:=h6.form2;rw [←HWB.out,HWD.out] at h6;have NW0:=ZZ (h6.mono (ab w6 (.cells #[.bool s6,.slice A6 k6 ca6,.slice B6 l6 cb6] 38)));have RW0:=ZZ (heap_alloc_new w6 (.cells #[.bool s6,.slice A6 k6 ca6,.slice B6 l6 cb6] 38));have K6:=ZZ (al HE.out (al K5.out (al kk6 (ab w6 (.cells #[.bool s6,.slice A6 k6 ca6,.slice B6 l6 cb6] 38)))));have BWD:=ZZ (show Bq 1001 wd from by rw [←HWD.out,HWB.out];exact(bq_powF (-mm)).mono (by have:=HMB.out;omega));clear h6 kk6 hmm hmx q2
    go_upto_region 8 with (fail)
    generalize w6.alloc (.cells #[.bool s6,.slice A6 k6 ca6,.slice B6 l6 cb6] _)=W7 at *;generalize w6.heap.size=gw at *;go_wp2_with fail;refine(own_p M (by have:=HM0.out;omega) (by have:=HM.out;omega) _ p (by have:=HLP.out;omega) _ (HP.out.mono K6.out) P5.out).mono ?_;rintro e wC ⟨vC,rfl,hC,kkC⟩;rw [HC0.out] at hC;obtain⟨AC,capC,eC,-⟩:=id hC;obtain⟨nC,hnC⟩:∃n,C.length=n:=⟨_,rfl⟩;rw [hnC] at eC;subst eC;have HCC2:=ZZ hC;have NWD:=ZZ (NW0.out.mono kkC);have RWD:=ZZ ((kkC.block _ (lt_of_block RW0.out)).trans RW0.out);have KC:=ZZ (al K6.out kkC);have HPC:=ZZ (HP.out.mono KC.out);clear hC kkC hnC NW0 RW0 K6 K3 K4 K5 HE HSB HSU;go_wp2_with fail;refine(power_p (k:Int) (by rw [Int.natAbs_natCast];have:=HKF.out;have:=P1.out;omega) _).mono ?_;rintro e x1 ⟨t1,rfl,g1,kx1⟩;rw [HPK.out] at g1;have G1:=ZZ g1;have X1:=ZZ kx1;clear g1 kx1;go_wp2_with fail;refine(neg_q _ pk _ G1.out).mono ?_;rintro e x2 ⟨t2,rfl,g2,kx2⟩;have G2:=ZZ g2;have X2:=ZZ (al X1.out kx2);clear g2 kx2;go_wp2_with fail;refine(power_p (k:Int) (by rw [Int.natAbs_natCast];have:=HKF.out;have:=P1.out;omega) _).mono ?_;rintro e x3 ⟨t3,rfl,g3,kx3⟩;rw [HPK.out] at g3;obtain⟨s11,A11,k11,ca11,B11,l11,cb11,rfl⟩:=(G2.out.mono kx3).form2;obtain⟨s12,A12,k12,ca12,B12,l12,cb12,rfl⟩:=g3.form2;have X3:=ZZ (al X2.out kx3);have SP0:=ZZ (show Sp x3 (.agg #[.bool s11,.slice A11 k11 ca11,.slice B11 l11 cb11,.bool s12,.slice A12 k12 ca12,.slice B12 l12 cb12]) (-pk) pk from ⟨_,_,_,_,_,_,rfl,G2.out.mono kx3,g3⟩)
    have OS:=ZZ (own_one6 (B:=wC.heap.size) (a:=(-pk,pk)) X3.out.size SP0.out);have X4:=ZZ (al X3.out (ab x3 (.cells #[.bool s11,.slice A11 k11 ca11,.slice B11 l11 cb11,.bool s12,.slice A12 k12 ca12,.slice B12 l12 cb12] 40)));have HDJ0:=ZZ (show ∀g,Value.ownBlock (.slice none 0 0)=some g→(Value.ownBlock (.slice (some ⟨x3.heap.size,0,none⟩) 1 1))≠some g from fun g hg=>by cases hg);clear g3 kx3 G1 G2 X1 X2 X3 SP0
    go_upto_region 11 with (fail)
    go_step3
    go_wp2_with fail;generalize x3.heap.size=gs at *
    generalize x3.alloc (.cells #[.bool s11,.slice A11 k11 ca11,.slice B11 l11 cb11,.bool s12,.slice A12 k12 ca12,.slice B12 l12 cb12] _)=X5 at *
    go_loopg [10,11] L (fun f vo vs wr=>∃(st out:List (Rat × Rat)) (As:Option Addr) (ns cs:Nat),vs=.slice As ns cs∧Hid (st.length=ns)∧Hid (rootsB M p C wd f st out.length=true)∧Hid (rootsU p C wd f st out=DD)∧Hid (out.length≤10001)∧Hid (OwnSp wr wC.heap.size vo out)∧Hid (OwnSp wr wC.heap.size (.slice As ns cs) st.reverse)∧Hid (∀g,vo.ownBlock=some g→Value.ownBlock (.slice As ns cs)≠some g)∧Hid (Ext wC wr))
    case atStart=>exact⟨[(-pk,pk)],[],_,1,1,rfl,ZZ rfl,P7,HDD,ZZ (by simp),ZZ (OwnSp.nil _ _),OS,HDJ0,X4⟩
    case round=>
     obtain⟨st,out,As,ns,cs,rfl,HNS,HRB,HRU,HFO,HO,HS,HDJ,HE2⟩:=hrel;rename World=>WR
     rename_i vo _
     cases st with
     | nil=>
      obtain rfl:0=ns:=HNS.out;go_wp2_with fail;rw [Exit.noGoto_ret];refine bodyPost_ret (v:=.tuple #[u10,.int .i64 0]) (by simp [results,Tryz.f16]) rfl ?_;rw [HDE.out,←HRU.out];refine⟨_,rfl,?_,al KC.out HE2.out⟩;rw [show rootsU p C wd gk [] out=out from by cases gk <;> rfl];exact HO.out.spl
     | cons a rest=>
      obtain⟨lo,hi⟩:=a
      obtain⟨fo,rfl⟩:∃j,gk=j+1:=⟨gk - 1,by
       rcases Nat.eq_zero_or_pos gk with h|h
       ·subst h
        have h1:=HRB.out;unfold rootsB at h1
        cases h1
       ·omega⟩
      obtain⟨n,hn⟩:∃n,rest.length=n:=⟨_,rfl⟩;have hns:n+1=ns:=by rw [←HNS.out,←hn];rfl
      have hrb:=HRB.out;unfold rootsB at hrb
      simp only [Bool.and_eq_true] at hrb
      obtain⟨⟨⟨b1,b2⟩,b4⟩,b3⟩:=hrb;have HOL:=ZZ (show out.length≤10000 from of_decide_eq_true b4);obtain⟨mm2,hmm2⟩:∃x,shQ (lo+hi) (-1)=x:=⟨_,rfl⟩;rw [hmm2] at b1;have B1':=ZZ (sm_of b1);have HB3:=ZZ b3;have HMM:=ZZ hmm2;have HNN:=ZZ (show n≤1000000000 from by rw [←hn];exact of_decide_eq_true b2);have HNr:=ZZ hn;have hS:=HS.out;rw [List.reverse_cons] at hS;have HSP2:=ZZ (show OwnSp WR wC.heap.size (.slice As n cs) rest.reverse from by have h:=hS.pop;rw [List.length_reverse,hn] at h;exact h);obtain⟨g,s1,A1,k1,ca1,B1,l1,cb1,s2,A2,k2,ca2,B2,l2,cb2,rfl,hcap,x0,x1,x2,x3',x4,x5,hsp⟩:=hS.last;rw [List.length_reverse,hn] at hcap x0 x1 x2 x3' x4 x5;have HSA:=ZZ hsp;have q1:IntKind.i64.wrap ((ns:Int) - 1)=(n:Int):=by rw [←hns];rw [show ((n+1:Nat):Int) - 1=n by omega];have h9:=HNN.out;exact IntWalk.i64_in _ (by omega)
      have q2:decide ((0:Int)<(ns:Int))=true:=decide_eq_true (by omega);have q2b:(0:Int)<(ns:Int):=by omega
      have q2c:0<ns:=by omega
      have q3:(n:Int)<(ns:Int):=by omega
      have q3b:n<ns:=by omega
      have q4:(n:Int)≤(cs:Int):=by omega
      have q4b:n≤cs:=by omega
      have HLO:=ZZ (show Nm WR (.agg #[.bool s1,.slice A1 k1 ca1,.slice B1 l1 cb1]) lo from by obtain⟨_,_,_,_,_,_,e,h1,h2⟩:=hsp;cases e;exact h1);have HHI:=ZZ (show Nm WR (.agg #[.bool s2,.slice A2 k2 ca2,.slice B2 l2 cb2]) hi from by obtain⟨_,_,_,_,_,_,e,h1,h2⟩:=hsp;cases e;exact h2);clear hn hns b1 b2 b3 hmm2 hS hcap hsp
      go_upto_region 14 with (fail)
      have E2:=ZZ (ab WR (.cells #[.bool s1,.slice A1 k1 ca1,.slice B1 l1 cb1,.bool s2,.slice A2 k2 ca2,.slice B2 l2 cb2] 40));have HRA:=ZZ (heap_alloc_new WR (.cells #[.bool s1,.slice A1 k1 ca1,.slice B1 l1 cb1,.bool s2,.slice A2 k2 ca2,.slice B2 l2 cb2] 40));have HGC:=ZZ (show wC.heap.size≤WR.heap.size from HE2.out.size);have HGO:=ZZ (show ∀r,u10.ownBlock=some r→r≠WR.heap.size from fun r hr e=>by have:=HO.out.lt r hr;omega);have HGS:=ZZ (show g≠WR.heap.size from fun e=>by have:=HS.out.lt g rfl;omega);generalize WR.alloc (.cells #[.bool s1,.slice A1 k1 ca1,.slice B1 l1 cb1,.bool s2,.slice A2 k2 ca2,.slice B2 l2 cb2] _)=W2 at *;generalize WR.heap.size=ga at *;clear x0 x1 x2 x3' x4 x5 q1 q2 q2b q2c q3 q3b q4 q4b HS
      have HC:=ZZ (show ∀W,Ext W2 W→W.cell? ⟨ga,0,none⟩=some (.bool s1)∧W.cell? ⟨ga,1,none⟩=some (.slice A1 k1 ca1)∧W.cell? ⟨ga,2,none⟩=some (.slice B1 l1 cb1)∧W.cell? ⟨ga,3,none⟩=some (.bool s2)∧W.cell? ⟨ga,4,none⟩=some (.slice A2 k2 ca2)∧W.cell? ⟨ga,5,none⟩=some (.slice B2 l2 cb2)∧W.cell? ⟨gw,0,none⟩=some (.bool s6)∧W.cell? ⟨gw,1,none⟩=some (.slice A6 k6 ca6)∧W.cell? ⟨gw,2,none⟩=some (.slice B6 l6 cb6) from fun W k=>by
       obtain⟨y0,y1,y2,y3,y4,y5,-⟩:=ai ((k.block _ (lt_of_block HRA.out)).trans HRA.out);have kk:=al HE2.out (al E2.out k);obtain⟨z0,z1,z2,-⟩:=aj ((kk.block _ (lt_of_block RWD.out)).trans RWD.out);exact⟨y0,y1,y2,y3,y4,y5,z0,z1,z2⟩)
      have HBL:=ZZ (B1'.out lo (by simp));have HBH:=ZZ (B1'.out hi (by simp));have HBM:=ZZ (B1'.out mm2 (by simp));have HSA2:=ZZ (HSA.out.mono E2.out);obtain⟨y0,y1,y2,y3,y4,y5,-⟩:=HC.out W2 (ae _);obtain⟨bt,hbt⟩:∃b,betweenF C lo hi=b:=⟨_,rfl⟩;have HBT:=ZZ hbt;clear hbt;go_wp2_with fail;refine(between_p M (by have:=HM0.out;omega) (by have:=HM.out;omega) _ _ _ C lo hi HCL.out HCB.out _ (HCC2.out.mono (al HE2.out E2.out)) (HLO.out.mono E2.out) (HHI.out.mono E2.out) HBL.out HBH.out).mono ?_;rintro e W3 ⟨rfl,kk3⟩;rw [HBT.out];have K3:=ZZ kk3;clear kk3 y0 y1 y2 y3 y4 y5
      by_cases hb0:bt=0
      ·have q1:decide (bt=0)=true:=decide_eq_true hb0
       have q1':(bt == 0)=true:=beq_iff_eq.2 hb0;have HB4:=ZZ (show rootsB M p C wd fo rest out.length=true from by have h:=HB3.out;rw [if_pos (HBT.out.trans hb0)] at h;exact h);have HU4:=ZZ (show rootsU p C wd fo rest out=DD from by have h:=HRU.out;unfold rootsU at h;rw [if_pos (HBT.out.trans hb0)] at h;exact h);have KX:=ZZ (al E2.out K3.out);clear hb0;go_wp2_with fail
       go_roundg fo
       case measure=>omega
       case rel=>exact⟨rest,out,_,n,cs,rfl,HNr,HB4,HU4,ZZ (by have:=HFO.out;omega),ZZ (HO.out.mono KX.out),ZZ (HSP2.out.mono KX.out),HDJ,ZZ (al HE2.out KX.out)⟩
      ·have q1:decide (bt=0)=false:=decide_eq_false hb0
       have q1':(bt == 0)=false:=beq_eq_false_iff_ne.2 hb0;have HBN:=ZZ (show ¬ betweenF C lo hi=0 from fun e=>hb0 (HBT.out.symm.trans e));clear hb0;have hun:undef=.tuple #[]:=rfl
       by_cases hb1:bt=1
       ·obtain⟨c2,hc2⟩:∃c,cmpQ (absQ (hi - lo)) wd=c:=⟨_,rfl⟩
        have HC2:=ZZ hc2;have r1:(bt == 1)=true:=beq_iff_eq.2 hb1;have r1':decide (bt=1)=true:=decide_eq_true hb1;have HB1:=ZZ (HBT.out.trans hb1);have BWW:=ZZ (bq_absQ (HBH.out.sub HBL.out))
        by_cases hw:wd<absQ (hi - lo)
        ·have r2:decide (c2≤0)=false:=decide_eq_false fun h=>by
          have h9:=(cmpQ_pos _ _).2 hw;rw [hc2] at h9;omega
         have HONE:=ZZ (show oneR p C wd (lo,hi)=false from by unfold oneR;rw [decide_eq_true hw];simp);clear hc2 hb1 hw
         go_upto_region 16 with (fail)
         refine wp_region_noPanic ?_;refine wp_region_held_drew (S:=fun W=>W.cell? ⟨ga,0,none⟩=some (.bool s1)∧W.cell? ⟨ga,1,none⟩=some (.slice A1 k1 ca1)∧W.cell? ⟨ga,2,none⟩=some (.slice B1 l1 cb1)∧W.cell? ⟨ga,3,none⟩=some (.bool s2)∧W.cell? ⟨ga,4,none⟩=some (.slice A2 k2 ca2)∧W.cell? ⟨ga,5,none⟩=some (.slice B2 l2 cb2)∧W.cell? ⟨gw,0,none⟩=some (.bool s6)∧W.cell? ⟨gw,1,none⟩=some (.slice A6 k6 ca6)∧W.cell? ⟨gw,2,none⟩=some (.slice B6 l6 cb6)) (by kernel_rfl) (HC.out _ (al K3.out (ac _))) (fun hHeld=>?_);refine take_a 0 66 ?_;refine take_a 1 67 ?_;refine take_a 2 68 ?_;refine take_a 3 69 ?_;refine take_a 5 71 ?_;refine call_p (i:=4) (some 70) rfl rfl (by kernel_rfl) (fun K hK=>?_)
         go_simp
         go_at_call 44
         refine(widthS_q M (by have:=HM.out;omega) _ lo hi _ (HSA2.out.mono (al K3.out (ac _))) HBL.out HBH.out).mono ?_;rintro e y1 ⟨vy1,rfl,hy1,ky1⟩;have Y1:=ZZ hy1;have X1:=ZZ (show Ext W3 y1 from al (ac _) ky1);clear hy1 ky1
         try go_wp2_with fail
         refine hK.out _ _ (HC.out _ (al K3.out X1.out)) (fun hHeld=>?_);clear hK K
         try simp only [Act.put,lyA,lyB,lyC]
         refine call_p (i:=6) (some 72) rfl rfl (by kernel_rfl) (fun K hK=>?_)
         go_simp
         go_at_call 33
         refine(cmp_q (M+M+1+1100) (by have:=HM.out;omega) _ _ (absQ (hi - lo)) wd _ Y1.out (NWD.out.mono (al HE2.out (al E2.out (al K3.out X1.out)))) (BWW.out.mono (by omega)) (BWD.out.mono (by omega))).mono ?_;rintro e y2 ⟨rfl,ky2⟩;rw [HC2.out];have X2:=ZZ (al X1.out ky2);clear ky2
         try go_wp2_with fail
         refine hK.out _ _ (HC.out _ (al K3.out X2.out)) (fun hHeld=>?_);clear hK K
         try simp only [Act.put,lyA,lyB,lyC]
         refine take_a 7 73 ?_;refine take_a 8 74 ?_;refine take_a 9 75 ?_;refine take_p (i:=10) 76 (v:=undef) rfl rfl (by kernel_rfl) (by kernel_rfl) (by kernel_rfl) (fun _ _ _ h=>h) (Or.inr ⟨rfl,rfl⟩) (by assumption) ?_
         try simp only [Act.put,lyA,lyB,lyC]
         refine take_p (i:=11) 77 (v:=undef) rfl rfl (by kernel_rfl) (by kernel_rfl) (by kernel_rfl) (fun _ _ _ h=>h) (Or.inr ⟨rfl,rfl⟩) (by assumption) ?_
         try simp only [Act.put,lyA,lyB,lyC]
         refine take_p (i:=12) 78 (v:=undef) rfl rfl (by kernel_rfl) (by kernel_rfl) (by kernel_rfl) (fun _ _ _ h=>h) (Or.inr ⟨rfl,rfl⟩) (by assumption) ?_
         try simp only [Act.put,lyA,lyB,lyC]
         refine call_p (i:=13) (some 79) rfl rfl (by kernel_rfl) (fun K hK=>?_);rw [if_neg (by exact Bool.false_ne_true)];refine hK.out _ _ (by assumption) (fun hHeld=>?_);clear hK K
         try simp only [Act.put,lyA,lyB,lyC]
         refine call_p (i:=14) (some 80) rfl rfl (by kernel_rfl) (fun K hK=>?_);rw [if_neg (by exact Bool.false_ne_true)];refine hK.out _ _ (by assumption) (fun hHeld=>?_);clear hK K
         try simp only [Act.put,lyA,lyB,lyC]
         refine take_p (i:=15) 81 (v:=undef) rfl rfl (by kernel_rfl) (by kernel_rfl) (by kernel_rfl) (fun _ _ _ h=>h) (Or.inr ⟨rfl,rfl⟩) (by assumption) ?_
         try simp only [Act.put,lyA,lyB,lyC]
         refine take_a 16 82 ?_;refine take_a 17 65 ?_;refine wpAnyH_done (by kernel_rfl) ?_ _;refine NoPanic.normal ?_;have KX:=ZZ (al K3.out X2.out);have HB4:=ZZ (show rootsB M p C wd fo ((lo,mm2) :: (mm2,hi) :: rest) out.length=true from by have h:=HB3.out;rw [if_neg HBN.out,HONE.out,HMM.out] at h;exact h);have HU4:=ZZ (show rootsU p C wd fo ((lo,mm2) :: (mm2,hi) :: rest) out=DD from by have h:=HRU.out;unfold rootsU at h;rw [if_neg HBN.out,HONE.out,HMM.out] at h;exact h);obtain⟨y0,y1,y2,y3,y4,y5,-⟩:=HC.out _ KX.out;go_wp2_with fail;refine(midS_q M (by have:=HM.out;omega) _ lo hi _ (HSA2.out.mono KX.out) HBL.out HBH.out).mono ?_;rintro e W5 ⟨v5,rfl,h5,kk5⟩;obtain⟨s21,A21,k21,ca21,B21,l21,cb21,rfl⟩:=h5.form2;rw [HMM.out] at h5;have H5:=ZZ (h5.mono (ab W5 (.cells #[.bool s21,.slice A21 k21 ca21,.slice B21 l21 cb21] 38)));have RM:=ZZ (heap_alloc_new W5 (.cells #[.bool s21,.slice A21 k21 ca21,.slice B21 l21 cb21] 38));have KY:=ZZ (al KX.out (al kk5 (ab W5 (.cells #[.bool s21,.slice A21 k21 ca21,.slice B21 l21 cb21] 38))));clear h5 kk5 y0 y1 y2 y3 y4 y5
         go_upto_region 21 with (fail)
         generalize W5.alloc (.cells #[.bool s21,.slice A21 k21 ca21,.slice B21 l21 cb21] _)=W6 at *;generalize W5.heap.size=gm at *;obtain⟨y0,y1,y2,y3,y4,y5,-⟩:=HC.out W6 KY.out;obtain⟨z0,z1,z2,-⟩:=aj RM.out;have E7:=ZZ (ab W6 (.cells #[.bool s21,.slice A21 k21 ca21,.slice B21 l21 cb21,.bool s2,.slice A2 k2 ca2,.slice B2 l2 cb2,.bool s1,.slice A1 k1 ca1,.slice B1 l1 cb1,.bool s21,.slice A21 k21 ca21,.slice B21 l21 cb21] 40));have EK:=ZZ (al E2.out (al KY.out E7.out));have SPA:=ZZ (show Sp (W6.alloc (.cells #[.bool s21,.slice A21 k21 ca21,.slice B21 l21 cb21,.bool s2,.slice A2 k2 ca2,.slice B2 l2 cb2,.bool s1,.slice A1 k1 ca1,.slice B1 l1 cb1,.bool s21,.slice A21 k21 ca21,.slice B21 l21 cb21] 40)) (.agg #[.bool s21,.slice A21 k21 ca21,.slice B21 l21 cb21,.bool s2,.slice A2 k2 ca2,.slice B2 l2 cb2]) mm2 hi from ⟨_,_,_,_,_,_,rfl,H5.out.mono E7.out,HHI.out.mono EK.out⟩);have SPB:=ZZ (show Sp (W6.alloc (.cells #[.bool s21,.slice A21 k21 ca21,.slice B21 l21 cb21,.bool s2,.slice A2 k2 ca2,.slice B2 l2 cb2,.bool s1,.slice A1 k1 ca1,.slice B1 l1 cb1,.bool s21,.slice A21 k21 ca21,.slice B21 l21 cb21] 40)) (.agg #[.bool s1,.slice A1 k1 ca1,.slice B1 l1 cb1,.bool s21,.slice A21 k21 ca21,.slice B21 l21 cb21]) lo mm2 from ⟨_,_,_,_,_,_,rfl,HLO.out.mono EK.out,H5.out.mono E7.out⟩);obtain⟨xs,hown,hx⟩:=HSP2.out.mono EK.out;have HOWN:=ZZ hown;have HX:=ZZ hx
         have C1:=ZZ (spN_new W6 [.bool s21,.slice A21 k21 ca21,.slice B21 l21 cb21,.bool s2,.slice A2 k2 ca2,.slice B2 l2 cb2,.bool s1,.slice A1 k1 ca1,.slice B1 l1 cb1,.bool s21,.slice A21 k21 ca21,.slice B21 l21 cb21]);have HRL:=ZZ (show rest.reverse.length=n from by rw [List.length_reverse];exact HNr.out);clear hown hx
         go_wp2_with (at_builtin;refine wpList_appendG2 elSp zero_sp rfl _ _ rfl wC.heap.size _ rest.reverse.length xs rfl HOWN.out ⟨W6.heap.size,0,none⟩ 2 _ [.bool s21,.slice A21 k21 ca21,.slice B21 l21 cb21,.bool s2,.slice A2 k2 ca2,.slice B2 l2 cb2,.bool s1,.slice A1 k1 ca1,.slice B1 l1 cb1,.bool s21,.slice A21 k21 ca21,.slice B21 l21 cb21] rfl rfl C1.out (by intro u hu;simp only [List.mem_cons,List.mem_nil_iff,or_false] at hu;rcases hu with rfl|rfl|rfl|rfl|rfl|rfl|rfl|rfl|rfl|rfl|rfl|rfl <;> rfl) (by intro u hu z e;subst e;simp at hu) (by decide) (by have h1:=HRL.out;have h2:=HNN.out;omega) (by have h1:=HRL.out;have h2:=HNN.out;unfold maxLen;omega) (al HE2.out EK.out).size ?_;intro v' W8 hown8 hgrow8 hblk8)
         clear y0 y1 y2 y3 y4 y5 z0 z1 z2;have OS8:=ZZ (OwnSp.snoc2 HOWN.out HX.out (a:=(mm2,hi)) (b:=(lo,mm2)) SPA.out SPB.out hgrow8 hown8);have OO8:=ZZ ((HO.out.mono EK.out).keep HOWN.out hgrow8 (fun r h1 h2=>HDJ.out r h1 h2));have EX8:=ZZ (ext_grownG (al HE2.out EK.out) HOWN.out hgrow8);have HL8:=ZZ (show rest.reverse.length+2=((lo,mm2) :: (mm2,hi) :: rest).length from by simp)
         have HD8:=ZZ (show ∀r,u10.ownBlock=some r→v'.ownBlock≠some r from fun r h1 h2=>by
          rcases hblk8 with h|h
          ·rw [h2] at h
           exact HDJ.out r h1 h.symm
          ·rw [h2] at h
           have h3:=(HO.out.lt r h1).2;have h4:=EK.out.size;have h5:=Option.some.inj h
           omega)
         obtain⟨g8,cap8,e8,-⟩:=hown8.cells (by omega);clear hown8 hgrow8 hblk8;subst e8
         go_upto_block 2 with (fail)
         go_roundg fo
         case measure=>omega
         case rel=>exact⟨(lo,mm2) :: (mm2,hi) :: rest,out,_,_,cap8,rfl,ZZ HL8.out.symm,HB4,HU4,ZZ (by have:=HFO.out;omega),OO8,ZZ (by have h:=OS8.out;rw [List.reverse_cons,List.reverse_cons];exact h),HD8,EX8⟩
        ·have r2:decide (c2≤0)=true:=decide_eq_true (by
          have h9:c2≠1:=fun h=>hw ((cmpQ_pos _ _).1 (hc2.trans h));have h2:=hc2;unfold cmpQ at h2;have h3:=Int.sign_trichotomy ((absQ (hi - lo)).num*↑wd.den - wd.num*↑(absQ (hi - lo)).den)
          omega)
         obtain⟨sl,hsl⟩:∃s,(evR p lo).num.sign=s:=⟨_,rfl⟩;have HSL:=ZZ hsl;have HWN:=ZZ hw
         by_cases hs0:sl=0
         ·have r3:(sl != 0)=false:=by rw [hs0];rfl
          have r3':decide (sl=0)=true:=decide_eq_true hs0;have HONE:=ZZ (show oneR p C wd (lo,hi)=false from by unfold oneR;rw [decide_eq_true (hsl.trans hs0)];simp);clear hc2 hb1 hw hsl hs0
          go_upto_region 16 with (fail)
          refine wp_region_noPanic ?_;refine wp_region_held_drew (S:=fun W=>W.cell? ⟨ga,0,none⟩=some (.bool s1)∧W.cell? ⟨ga,1,none⟩=some (.slice A1 k1 ca1)∧W.cell? ⟨ga,2,none⟩=some (.slice B1 l1 cb1)∧W.cell? ⟨ga,3,none⟩=some (.bool s2)∧W.cell? ⟨ga,4,none⟩=some (.slice A2 k2 ca2)∧W.cell? ⟨ga,5,none⟩=some (.slice B2 l2 cb2)∧W.cell? ⟨gw,0,none⟩=some (.bool s6)∧W.cell? ⟨gw,1,none⟩=some (.slice A6 k6 ca6)∧W.cell? ⟨gw,2,none⟩=some (.slice B6 l6 cb6)) (by kernel_rfl) (HC.out _ (al K3.out (ac _))) (fun hHeld=>?_);refine take_a 0 66 ?_;refine take_a 1 67 ?_;refine take_a 2 68 ?_;refine take_a 3 69 ?_;refine take_a 5 71 ?_;refine call_p (i:=4) (some 70) rfl rfl (by kernel_rfl) (fun K hK=>?_)
          go_simp
          go_at_call 44
          refine(widthS_q M (by have:=HM.out;omega) _ lo hi _ (HSA2.out.mono (al K3.out (ac _))) HBL.out HBH.out).mono ?_;rintro e y1 ⟨vy1,rfl,hy1,ky1⟩;have Y1:=ZZ hy1;have X1:=ZZ (show Ext W3 y1 from al (ac _) ky1);clear hy1 ky1
          try go_wp2_with fail
          refine hK.out _ _ (HC.out _ (al K3.out X1.out)) (fun hHeld=>?_);clear hK K
          try simp only [Act.put,lyA,lyB,lyC]
          refine call_p (i:=6) (some 72) rfl rfl (by kernel_rfl) (fun K hK=>?_)
          go_simp
          go_at_call 33
          refine(cmp_q (M+M+1+1100) (by have:=HM.out;omega) _ _ (absQ (hi - lo)) wd _ Y1.out (NWD.out.mono (al HE2.out (al E2.out (al K3.out X1.out)))) (BWW.out.mono (by omega)) (BWD.out.mono (by omega))).mono ?_;rintro e y2 ⟨rfl,ky2⟩;rw [HC2.out];have X2:=ZZ (al X1.out ky2);clear ky2
          try go_wp2_with fail
          refine hK.out _ _ (HC.out _ (al K3.out X2.out)) (fun hHeld=>?_);clear hK K
          try simp only [Act.put,lyA,lyB,lyC]
          refine take_a 7 73 ?_;refine take_a 8 74 ?_;refine take_a 9 75 ?_;refine take_a 10 76 ?_;refine take_a 11 77 ?_;refine take_a 12 78 ?_;refine call_p (i:=13) (some 79) rfl rfl (by kernel_rfl) (fun K hK=>?_)
          go_simp
          go_at_call 45
          refine(eval_p M (by have:=HM0.out;omega) _ _ p lo (by have:=HLP.out;omega) (k_of (by have:=HM.out;omega) HLP.out) _ (HPC.out.mono (al HE2.out (al E2.out (al K3.out X2.out)))) (HLO.out.mono (al E2.out (al K3.out X2.out))) P6.out HBL.out).mono ?_;rintro e y3 ⟨vy3,rfl,hy3,ky3⟩;have Y3:=ZZ hy3;have X3:=ZZ (al X2.out ky3);clear hy3 ky3
          try go_wp2_with fail
          refine hK.out _ _ (HC.out _ (al K3.out X3.out)) (fun hHeld=>?_);clear hK K
          try simp only [Act.put,lyA,lyB,lyC]
          refine call_p (i:=14) (some 80) rfl rfl (by kernel_rfl) (fun K hK=>?_)
          go_simp
          go_at_call 20
          refine(sign_q' _ (evR p lo) _ sl HSL.out Y3.out).mono ?_;rintro e y4 ⟨rfl,ky4⟩;have X4':=ZZ (al X3.out ky4);clear ky4
          try go_wp2_with fail
          refine hK.out _ _ (HC.out _ (al K3.out X4'.out)) (fun hHeld=>?_);clear hK K
          try simp only [Act.put,lyA,lyB,lyC]
          refine take_a 15 81 ?_;refine take_a 16 82 ?_;refine take_a 17 65 ?_;refine wpAnyH_done (by kernel_rfl) ?_ _;refine NoPanic.normal ?_;have KX:=ZZ (al K3.out X4'.out);have HB4:=ZZ (show rootsB M p C wd fo ((lo,mm2) :: (mm2,hi) :: rest) out.length=true from by have h:=HB3.out;rw [if_neg HBN.out,HONE.out,HMM.out] at h;exact h);have HU4:=ZZ (show rootsU p C wd fo ((lo,mm2) :: (mm2,hi) :: rest) out=DD from by have h:=HRU.out;unfold rootsU at h;rw [if_neg HBN.out,HONE.out,HMM.out] at h;exact h);obtain⟨y0,y1,y2,y3,y4,y5,-⟩:=HC.out _ KX.out;go_wp2_with fail;refine(midS_q M (by have:=HM.out;omega) _ lo hi _ (HSA2.out.mono KX.out) HBL.out HBH.out).mono ?_;rintro e W5 ⟨v5,rfl,h5,kk5⟩;obtain⟨s21,A21,k21,ca21,B21,l21,cb21,rfl⟩:=h5.form2;rw [HMM.out] at h5;have H5:=ZZ (h5.mono (ab W5 (.cells #[.bool s21,.slice A21 k21 ca21,.slice B21 l21 cb21] 38)));have RM:=ZZ (heap_alloc_new W5 (.cells #[.bool s21,.slice A21 k21 ca21,.slice B21 l21 cb21] 38));have KY:=ZZ (al KX.out (al kk5 (ab W5 (.cells #[.bool s21,.slice A21 k21 ca21,.slice B21 l21 cb21] 38))));clear h5 kk5 y0 y1 y2 y3 y4 y5
          go_upto_region 21 with (fail)
          generalize W5.alloc (.cells #[.bool s21,.slice A21 k21 ca21,.slice B21 l21 cb21] _)=W6 at *;generalize W5.heap.size=gm at *;obtain⟨y0,y1,y2,y3,y4,y5,-⟩:=HC.out W6 KY.out;obtain⟨z0,z1,z2,-⟩:=aj RM.out;have E7:=ZZ (ab W6 (.cells #[.bool s21,.slice A21 k21 ca21,.slice B21 l21 cb21,.bool s2,.slice A2 k2 ca2,.slice B2 l2 cb2,.bool s1,.slice A1 k1 ca1,.slice B1 l1 cb1,.bool s21,.slice A21 k21 ca21,.slice B21 l21 cb21] 40));have EK:=ZZ (al E2.out (al KY.out E7.out));have SPA:=ZZ (show Sp (W6.alloc (.cells #[.bool s21,.slice A21 k21 ca21,.slice B21 l21 cb21,.bool s2,.slice A2 k2 ca2,.slice B2 l2 cb2,.bool s1,.slice A1 k1 ca1,.slice B1 l1 cb1,.bool s21,.slice A21 k21 ca21,.slice B21 l21 cb21] 40)) (.agg #[.bool s21,.slice A21 k21 ca21,.slice B21 l21 cb21,.bool s2,.slice A2 k2 ca2,.slice B2 l2 cb2]) mm2 hi from ⟨_,_,_,_,_,_,rfl,H5.out.mono E7.out,HHI.out.mono EK.out⟩);have SPB:=ZZ (show Sp (W6.alloc (.cells #[.bool s21,.slice A21 k21 ca21,.slice B21 l21 cb21,.bool s2,.slice A2 k2 ca2,.slice B2 l2 cb2,.bool s1,.slice A1 k1 ca1,.slice B1 l1 cb1,.bool s21,.slice A21 k21 ca21,.slice B21 l21 cb21] 40)) (.agg #[.bool s1,.slice A1 k1 ca1,.slice B1 l1 cb1,.bool s21,.slice A21 k21 ca21,.slice B21 l21 cb21]) lo mm2 from ⟨_,_,_,_,_,_,rfl,HLO.out.mono EK.out,H5.out.mono E7.out⟩);obtain⟨xs,hown,hx⟩:=HSP2.out.mono EK.out;have HOWN:=ZZ hown;have HX:=ZZ hx
          have C1:=ZZ (spN_new W6 [.bool s21,.slice A21 k21 ca21,.slice B21 l21 cb21,.bool s2,.slice A2 k2 ca2,.slice B2 l2 cb2,.bool s1,.slice A1 k1 ca1,.slice B1 l1 cb1,.bool s21,.slice A21 k21 ca21,.slice B21 l21 cb21]);have HRL:=ZZ (show rest.reverse.length=n from by rw [List.length_reverse];exact HNr.out);clear hown hx
          go_wp2_with (at_builtin;refine wpList_appendG2 elSp zero_sp rfl _ _ rfl wC.heap.size _ rest.reverse.length xs rfl HOWN.out ⟨W6.heap.size,0,none⟩ 2 _ [.bool s21,.slice A21 k21 ca21,.slice B21 l21 cb21,.bool s2,.slice A2 k2 ca2,.slice B2 l2 cb2,.bool s1,.slice A1 k1 ca1,.slice B1 l1 cb1,.bool s21,.slice A21 k21 ca21,.slice B21 l21 cb21] rfl rfl C1.out (by intro u hu;simp only [List.mem_cons,List.mem_nil_iff,or_false] at hu;rcases hu with rfl|rfl|rfl|rfl|rfl|rfl|rfl|rfl|rfl|rfl|rfl|rfl <;> rfl) (by intro u hu z e;subst e;simp at hu) (by decide) (by have h1:=HRL.out;have h2:=HNN.out;omega) (by have h1:=HRL.out;have h2:=HNN.out;unfold maxLen;omega) (al HE2.out EK.out).size ?_;intro v' W8 hown8 hgrow8 hblk8)
          clear y0 y1 y2 y3 y4 y5 z0 z1 z2;have OS8:=ZZ (OwnSp.snoc2 HOWN.out HX.out (a:=(mm2,hi)) (b:=(lo,mm2)) SPA.out SPB.out hgrow8 hown8);have OO8:=ZZ ((HO.out.mono EK.out).keep HOWN.out hgrow8 (fun r h1 h2=>HDJ.out r h1 h2));have EX8:=ZZ (ext_grownG (al HE2.out EK.out) HOWN.out hgrow8);have HL8:=ZZ (show rest.reverse.length+2=((lo,mm2) :: (mm2,hi) :: rest).length from by simp)
          have HD8:=ZZ (show ∀r,u10.ownBlock=some r→v'.ownBlock≠some r from fun r h1 h2=>by
           rcases hblk8 with h|h
           ·rw [h2] at h
            exact HDJ.out r h1 h.symm
           ·rw [h2] at h
            have h3:=(HO.out.lt r h1).2;have h4:=EK.out.size;have h5:=Option.some.inj h
            omega)
          obtain⟨g8,cap8,e8,-⟩:=hown8.cells (by omega);clear hown8 hgrow8 hblk8;subst e8
          go_upto_block 2 with (fail)
          go_roundg fo
          case measure=>omega
          case rel=>exact⟨(lo,mm2) :: (mm2,hi) :: rest,out,_,_,cap8,rfl,ZZ HL8.out.symm,HB4,HU4,ZZ (by have:=HFO.out;omega),OO8,ZZ (by have h:=OS8.out;rw [List.reverse_cons,List.reverse_cons];exact h),HD8,EX8⟩
         ·have r3:(sl != 0)=true:=bne_iff_ne.2 hs0
          have r3':decide (sl=0)=false:=decide_eq_false hs0;have HONE:=ZZ (show oneR p C wd (lo,hi)=true from by unfold oneR;rw [decide_eq_true HB1.out,decide_eq_false HWN.out,decide_eq_false (fun h=>hs0 (hsl.symm.trans h))];rfl);clear hc2 hb1 hw hsl hs0
          go_upto_region 16 with (fail)
          refine wp_region_noPanic ?_;refine wp_region_held_drew (S:=fun W=>W.cell? ⟨ga,0,none⟩=some (.bool s1)∧W.cell? ⟨ga,1,none⟩=some (.slice A1 k1 ca1)∧W.cell? ⟨ga,2,none⟩=some (.slice B1 l1 cb1)∧W.cell? ⟨ga,3,none⟩=some (.bool s2)∧W.cell? ⟨ga,4,none⟩=some (.slice A2 k2 ca2)∧W.cell? ⟨ga,5,none⟩=some (.slice B2 l2 cb2)∧W.cell? ⟨gw,0,none⟩=some (.bool s6)∧W.cell? ⟨gw,1,none⟩=some (.slice A6 k6 ca6)∧W.cell? ⟨gw,2,none⟩=some (.slice B6 l6 cb6)) (by kernel_rfl) (HC.out _ (al K3.out (ac _))) (fun hHeld=>?_);refine take_a 0 66 ?_;refine take_a 1 67 ?_;refine take_a 2 68 ?_;refine take_a 3 69 ?_;refine take_a 5 71 ?_;refine call_p (i:=4) (some 70) rfl rfl (by kernel_rfl) (fun K hK=>?_)
          go_simp
          go_at_call 44
          refine(widthS_q M (by have:=HM.out;omega) _ lo hi _ (HSA2.out.mono (al K3.out (ac _))) HBL.out HBH.out).mono ?_;rintro e y1 ⟨vy1,rfl,hy1,ky1⟩;have Y1:=ZZ hy1;have X1:=ZZ (show Ext W3 y1 from al (ac _) ky1);clear hy1 ky1
          try go_wp2_with fail
          refine hK.out _ _ (HC.out _ (al K3.out X1.out)) (fun hHeld=>?_);clear hK K
          try simp only [Act.put,lyA,lyB,lyC]
          refine call_p (i:=6) (some 72) rfl rfl (by kernel_rfl) (fun K hK=>?_)
          go_simp
          go_at_call 33
          refine(cmp_q (M+M+1+1100) (by have:=HM.out;omega) _ _ (absQ (hi - lo)) wd _ Y1.out (NWD.out.mono (al HE2.out (al E2.out (al K3.out X1.out)))) (BWW.out.mono (by omega)) (BWD.out.mono (by omega))).mono ?_;rintro e y2 ⟨rfl,ky2⟩;rw [HC2.out];have X2:=ZZ (al X1.out ky2);clear ky2
          try go_wp2_with fail
          refine hK.out _ _ (HC.out _ (al K3.out X2.out)) (fun hHeld=>?_);clear hK K
          try simp only [Act.put,lyA,lyB,lyC]
          refine take_a 7 73 ?_;refine take_a 8 74 ?_;refine take_a 9 75 ?_;refine take_a 10 76 ?_;refine take_a 11 77 ?_;refine take_a 12 78 ?_;refine call_p (i:=13) (some 79) rfl rfl (by kernel_rfl) (fun K hK=>?_)
          go_simp
          go_at_call 45
          refine(eval_p M (by have:=HM0.out;omega) _ _ p lo (by have:=HLP.out;omega) (k_of (by have:=HM.out;omega) HLP.out) _ (HPC.out.mono (al HE2.out (al E2.out (al K3.out X2.out)))) (HLO.out.mono (al E2.out (al K3.out X2.out))) P6.out HBL.out).mono ?_;rintro e y3 ⟨vy3,rfl,hy3,ky3⟩;have Y3:=ZZ hy3;have X3:=ZZ (al X2.out ky3);clear hy3 ky3
          try go_wp2_with fail
          refine hK.out _ _ (HC.out _ (al K3.out X3.out)) (fun hHeld=>?_);clear hK K
          try simp only [Act.put,lyA,lyB,lyC]
          refine call_p (i:=14) (some 80) rfl rfl (by kernel_rfl) (fun K hK=>?_)
          go_simp
          go_at_call 20
          refine(sign_q' _ (evR p lo) _ sl HSL.out Y3.out).mono ?_;rintro e y4 ⟨rfl,ky4⟩;have X4':=ZZ (al X3.out ky4);clear ky4
          try go_wp2_with fail
          refine hK.out _ _ (HC.out _ (al K3.out X4'.out)) (fun hHeld=>?_);clear hK K
          try simp only [Act.put,lyA,lyB,lyC]
          refine take_a 15 81 ?_;refine take_a 16 82 ?_;refine take_a 17 65 ?_;refine wpAnyH_done (by kernel_rfl) ?_ _;refine NoPanic.normal ?_;have KX:=ZZ (al K3.out X4'.out);obtain⟨sh,hsh⟩:∃s,(evR p hi).num.sign=s:=⟨_,rfl⟩;have HSH:=ZZ hsh;have HB4:=ZZ (show rootsB M p C wd fo rest (out.length+1)=true from by have h:=HB3.out;rw [if_neg HBN.out,HONE.out] at h;exact h);have HU4:=ZZ (show rootsU p C wd fo rest (out ++ [if sh=0 then (hi,hi) else (lo,hi)])=DD from by have h:=HRU.out;unfold rootsU at h;rw [if_neg HBN.out,HONE.out] at h;rw [←hsh];exact h);clear hsh;obtain⟨y0,y1,y2,y3,y4,y5,-⟩:=HC.out _ KX.out;go_wp2_with fail;refine(eval_p M (by have:=HM0.out;omega) _ _ p hi (by have:=HLP.out;omega) (k_of (by have:=HM.out;omega) HLP.out) _ (HPC.out.mono (al HE2.out (al E2.out KX.out))) (HHI.out.mono (al E2.out KX.out)) P6.out HBH.out).mono ?_;rintro e V3 ⟨vy3,rfl,hy3,ky3⟩;have Y5:=ZZ hy3;have X5:=ZZ (al KX.out ky3);clear hy3 ky3;go_wp2_with fail;refine(sign_q' _ (evR p hi) _ sh HSH.out Y5.out).mono ?_;rintro e V4 ⟨rfl,ky4⟩;have X6:=ZZ (al X5.out ky4);clear ky4 y0 y1 y2 y3 y4 y5;have RB0:=ZZ ((X6.out.block _ (lt_of_block HRA.out)).trans HRA.out);have OOW0:=ZZ (HO.out.mono (al E2.out X6.out));have OSW0:=ZZ (HSP2.out.mono (al E2.out X6.out));have EXW0:=ZZ (al HE2.out (al E2.out X6.out));have SPW0:=ZZ (HSA2.out.mono X6.out)
          by_cases hh0:sh=0
          ·have r4:(sh == 0)=true:=beq_iff_eq.2 hh0
           have r4':decide (sh=0)=true:=decide_eq_true hh0;rw [if_pos hh0] at HU4;clear hh0;have RB:=ZZ (put6a_row RB0.out (.bool s2) (.slice A2 k2 ca2) (.slice B2 l2 cb2));have OOW:=ZZ (OOW0.out.put6 (noU6_row RB0.out) RB0.out HGO.out (.bool s2) (.slice A2 k2 ca2) (.slice B2 l2 cb2));have OSW:=ZZ (OSW0.out.put6 (noU6_row RB0.out) RB0.out (fun r h1 e=>HGS.out (by cases h1;exact e)) (.bool s2) (.slice A2 k2 ca2) (.slice B2 l2 cb2));have EXW:=ZZ (show Ext wC (put3at V4 ga 0 (.bool s2) (.slice A2 k2 ca2) (.slice B2 l2 cb2)) from ((EXW0.out.setCell HGC.out _).setCell HGC.out _).setCell HGC.out _);have SPW:=ZZ (show Sp (put3at V4 ga 0 (.bool s2) (.slice A2 k2 ca2) (.slice B2 l2 cb2)) (.agg #[.bool s2,.slice A2 k2 ca2,.slice B2 l2 cb2,.bool s2,.slice A2 k2 ca2,.slice B2 l2 cb2]) hi hi from ⟨_,_,_,_,_,_,rfl,nm_put6 (HHI.out.mono (al E2.out X6.out)) (noU6_row RB0.out) RB0.out (.bool s2) (.slice A2 k2 ca2) (.slice B2 l2 cb2),nm_put6 (HHI.out.mono (al E2.out X6.out)) (noU6_row RB0.out) RB0.out (.bool s2) (.slice A2 k2 ca2) (.slice B2 l2 cb2)⟩);obtain⟨y0,y1,y2,y3,y4,y5,w0,w1',w2,w3,w4,w5⟩:=ai RB0.out
           go_upto_region 19 with (fail)
           clear y0 y1 y2 y3 y4 y5 w0 w1' w2 w3 w4 w5;generalize hWP:(World.setCell (World.setCell (World.setCell V4 ⟨ga,0,none⟩ (.bool s2)) ⟨ga,1,none⟩ (.slice A2 k2 ca2)) ⟨ga,2,none⟩ (.slice B2 l2 cb2))=WP;have hWP':put3at V4 ga 0 (.bool s2) (.slice A2 k2 ca2) (.slice B2 l2 cb2)=WP:=hWP;rw [hWP'] at RB OOW OSW EXW SPW;clear hWP hWP';obtain⟨y0,y1,y2,y3,y4,y5,-⟩:=ai RB.out;have E7:=ZZ (ab WP (.cells #[.bool s2,.slice A2 k2 ca2,.slice B2 l2 cb2,.bool s2,.slice A2 k2 ca2,.slice B2 l2 cb2] 40));have SPA:=ZZ (SPW.out.mono E7.out);obtain⟨xs,hown,hx⟩:=OOW.out.mono E7.out;have HOWN:=ZZ hown;have HX:=ZZ hx;have C1:=ZZ (spN_new WP [.bool s2,.slice A2 k2 ca2,.slice B2 l2 cb2,.bool s2,.slice A2 k2 ca2,.slice B2 l2 cb2]);clear hown hx
           go_wp2_with (at_builtin;refine wpList_appendG2 elSp zero_sp rfl _ _ rfl wC.heap.size _ out.length xs rfl HOWN.out ⟨(WP).heap.size,0,none⟩ 1 _ [.bool s2,.slice A2 k2 ca2,.slice B2 l2 cb2,.bool s2,.slice A2 k2 ca2,.slice B2 l2 cb2] rfl rfl C1.out one6 notU6 (by decide) (by have h1:=HFO.out;have h2:=P1.out;omega) (by have h1:=HFO.out;have h2:=P1.out;unfold maxLen;omega) (al EXW.out E7.out).size ?_;intro v' W8 hown8 hgrow8 hblk8)
           clear y0 y1 y2 y3 y4 y5;have OO8:=ZZ (OwnSp.snoc HOWN.out HX.out (a:=(hi,hi)) SPA.out hgrow8 hown8);have OS8:=ZZ ((OSW.out.mono E7.out).keep HOWN.out hgrow8 (fun r h1 h2=>HDJ.out r h2 h1));have EX8:=ZZ (ext_grownG (al EXW.out E7.out) HOWN.out hgrow8)
           have HD8:=ZZ (show ∀r,v'.ownBlock=some r→Value.ownBlock (.slice (some ⟨g,0,none⟩) n cs)≠some r from fun r h1 h2=>by
            rcases hblk8 with h|h
            ·rw [h1] at h
             exact HDJ.out r h.symm h2
            ·rw [h1] at h
             have h3:=(OSW.out.lt r h2).2;have h4:=E7.out.size;have h5:=Option.some.inj h
             omega)
           clear hown8 hgrow8 hblk8
           go_upto_block 2 with (fail)
           go_roundg fo
           case measure=>omega
           case rel=>exact⟨rest,out ++ [(hi,hi)],_,n,cs,rfl,HNr,ZZ (by rw [List.length_append];exact HB4.out),HU4,ZZ (by have:=HOL.out;simp only [List.length_append,List.length_singleton];omega),OO8,OS8,HD8,EX8⟩
          ·have r4:(sh == 0)=false:=beq_eq_false_iff_ne.2 hh0
           have r4':decide (sh=0)=false:=decide_eq_false hh0;rw [if_neg hh0] at HU4;clear hh0;have RB:=RB0;have OOW:=OOW0;have OSW:=OSW0;have EXW:=EXW0;have SPW:=SPW0;obtain⟨y0,y1,y2,y3,y4,y5,-⟩:=ai RB.out;have E7:=ZZ (ab V4 (.cells #[.bool s1,.slice A1 k1 ca1,.slice B1 l1 cb1,.bool s2,.slice A2 k2 ca2,.slice B2 l2 cb2] 40));have SPA:=ZZ (SPW.out.mono E7.out);obtain⟨xs,hown,hx⟩:=OOW.out.mono E7.out;have HOWN:=ZZ hown;have HX:=ZZ hx;have C1:=ZZ (spN_new V4 [.bool s1,.slice A1 k1 ca1,.slice B1 l1 cb1,.bool s2,.slice A2 k2 ca2,.slice B2 l2 cb2]);clear hown hx
           go_wp2_with (at_builtin;refine wpList_appendG2 elSp zero_sp rfl _ _ rfl wC.heap.size _ out.length xs rfl HOWN.out ⟨(V4).heap.size,0,none⟩ 1 _ [.bool s1,.slice A1 k1 ca1,.slice B1 l1 cb1,.bool s2,.slice A2 k2 ca2,.slice B2 l2 cb2] rfl rfl C1.out one6 notU6 (by decide) (by have h1:=HFO.out;have h2:=P1.out;omega) (by have h1:=HFO.out;have h2:=P1.out;unfold maxLen;omega) (al EXW.out E7.out).size ?_;intro v' W8 hown8 hgrow8 hblk8)
           clear y0 y1 y2 y3 y4 y5;have OO8:=ZZ (OwnSp.snoc HOWN.out HX.out (a:=(lo,hi)) SPA.out hgrow8 hown8);have OS8:=ZZ ((OSW.out.mono E7.out).keep HOWN.out hgrow8 (fun r h1 h2=>HDJ.out r h2 h1));have EX8:=ZZ (ext_grownG (al EXW.out E7.out) HOWN.out hgrow8)
           have HD8:=ZZ (show ∀r,v'.ownBlock=some r→Value.ownBlock (.slice (some ⟨g,0,none⟩) n cs)≠some r from fun r h1 h2=>by
            rcases hblk8 with h|h
            ·rw [h1] at h
             exact HDJ.out r h.symm h2
            ·rw [h1] at h
             have h3:=(OSW.out.lt r h2).2;have h4:=E7.out.size;have h5:=Option.some.inj h
             omega)
           clear hown8 hgrow8 hblk8
           go_upto_block 2 with (fail)
           go_roundg fo
           case measure=>omega
           case rel=>exact⟨rest,out ++ [(lo,hi)],_,n,cs,rfl,HNr,ZZ (by rw [List.length_append];exact HB4.out),HU4,ZZ (by have:=HOL.out;simp only [List.length_append,List.length_singleton];omega),OO8,OS8,HD8,EX8⟩
       ·have r1:(bt == 1)=false:=beq_eq_false_iff_ne.2 hb1
        have r1':decide (bt=1)=false:=decide_eq_false hb1;have HONE:=ZZ (show oneR p C wd (lo,hi)=false from by unfold oneR;rw [decide_eq_false (fun h=>hb1 (HBT.out.symm.trans h))];rfl);clear hb1
        go_upto_region 16 with (fail)
        refine wp_region_noPanic ?_;refine wp_region_held_drew (S:=fun W=>W.cell? ⟨ga,0,none⟩=some (.bool s1)∧W.cell? ⟨ga,1,none⟩=some (.slice A1 k1 ca1)∧W.cell? ⟨ga,2,none⟩=some (.slice B1 l1 cb1)∧W.cell? ⟨ga,3,none⟩=some (.bool s2)∧W.cell? ⟨ga,4,none⟩=some (.slice A2 k2 ca2)∧W.cell? ⟨ga,5,none⟩=some (.slice B2 l2 cb2)∧W.cell? ⟨gw,0,none⟩=some (.bool s6)∧W.cell? ⟨gw,1,none⟩=some (.slice A6 k6 ca6)∧W.cell? ⟨gw,2,none⟩=some (.slice B6 l6 cb6)) (by kernel_rfl) (HC.out _ (al K3.out (ac _))) (fun hHeld=>?_);refine take_a 0 66 ?_;refine take_a 1 67 ?_;refine take_a 2 68 ?_;refine take_p (i:=3) 69 (v:=undef) rfl rfl (by kernel_rfl) (by kernel_rfl) (by kernel_rfl) (fun _ _ _ h=>h) (Or.inr ⟨rfl,rfl⟩) (by assumption) ?_
        try simp only [Act.put,lyA,lyB,lyC]
        refine take_p (i:=5) 71 (v:=undef) rfl rfl (by kernel_rfl) (by kernel_rfl) (by kernel_rfl) (fun _ _ _ h=>h) (Or.inr ⟨rfl,rfl⟩) (by assumption) ?_
        try simp only [Act.put,lyA,lyB,lyC]
        refine call_p (i:=4) (some 70) rfl rfl (by kernel_rfl) (fun K hK=>?_);rw [if_neg (by exact Bool.false_ne_true)];refine hK.out _ _ (by assumption) (fun hHeld=>?_);clear hK K
        try simp only [Act.put,lyA,lyB,lyC]
        refine call_p (i:=6) (some 72) rfl rfl (by kernel_rfl) (fun K hK=>?_);rw [if_neg (by exact Bool.false_ne_true)];refine hK.out _ _ (by assumption) (fun hHeld=>?_);clear hK K
        try simp only [Act.put,lyA,lyB,lyC]
        refine take_p (i:=7) 73 (v:=undef) rfl rfl (by kernel_rfl) (by kernel_rfl) (by kernel_rfl) (fun _ _ _ h=>h) (Or.inr ⟨rfl,rfl⟩) (by assumption) ?_
        try simp only [Act.put,lyA,lyB,lyC]
        refine take_a 8 74 ?_;refine take_a 9 75 ?_;refine take_p (i:=10) 76 (v:=undef) rfl rfl (by kernel_rfl) (by kernel_rfl) (by kernel_rfl) (fun _ _ _ h=>h) (Or.inr ⟨rfl,rfl⟩) (by assumption) ?_
        try simp only [Act.put,lyA,lyB,lyC]
        refine take_p (i:=11) 77 (v:=undef) rfl rfl (by kernel_rfl) (by kernel_rfl) (by kernel_rfl) (fun _ _ _ h=>h) (Or.inr ⟨rfl,rfl⟩) (by assumption) ?_
        try simp only [Act.put,lyA,lyB,lyC]
        refine take_p (i:=12) 78 (v:=undef) rfl rfl (by kernel_rfl) (by kernel_rfl) (by kernel_rfl) (fun _ _ _ h=>h) (Or.inr ⟨rfl,rfl⟩) (by assumption) ?_
        try simp only [Act.put,lyA,lyB,lyC]
        refine call_p (i:=13) (some 79) rfl rfl (by kernel_rfl) (fun K hK=>?_);rw [if_neg (by exact Bool.false_ne_true)];refine hK.out _ _ (by assumption) (fun hHeld=>?_);clear hK K
        try simp only [Act.put,lyA,lyB,lyC]
        refine call_p (i:=14) (some 80) rfl rfl (by kernel_rfl) (fun K hK=>?_);rw [if_neg (by exact Bool.false_ne_true)];refine hK.out _ _ (by assumption) (fun hHeld=>?_);clear hK K
        try simp only [Act.put,lyA,lyB,lyC]
        refine take_p (i:=15) 81 (v:=undef) rfl rfl (by kernel_rfl) (by kernel_rfl) (by kernel_rfl) (fun _ _ _ h=>h) (Or.inr ⟨rfl,rfl⟩) (by assumption) ?_
        try simp only [Act.put,lyA,lyB,lyC]
        refine take_a 16 82 ?_;refine take_a 17 65 ?_;refine wpAnyH_done (by kernel_rfl) ?_ _;refine NoPanic.normal ?_;have KX:=ZZ (al K3.out (ac W3));have HB4:=ZZ (show rootsB M p C wd fo ((lo,mm2) :: (mm2,hi) :: rest) out.length=true from by have h:=HB3.out;rw [if_neg HBN.out,HONE.out,HMM.out] at h;exact h);have HU4:=ZZ (show rootsU p C wd fo ((lo,mm2) :: (mm2,hi) :: rest) out=DD from by have h:=HRU.out;unfold rootsU at h;rw [if_neg HBN.out,HONE.out,HMM.out] at h;exact h);obtain⟨y0,y1,y2,y3,y4,y5,-⟩:=HC.out _ KX.out;go_wp2_with fail;refine(midS_q M (by have:=HM.out;omega) _ lo hi _ (HSA2.out.mono KX.out) HBL.out HBH.out).mono ?_;rintro e W5 ⟨v5,rfl,h5,kk5⟩;obtain⟨s21,A21,k21,ca21,B21,l21,cb21,rfl⟩:=h5.form2;rw [HMM.out] at h5;have H5:=ZZ (h5.mono (ab W5 (.cells #[.bool s21,.slice A21 k21 ca21,.slice B21 l21 cb21] 38)));have RM:=ZZ (heap_alloc_new W5 (.cells #[.bool s21,.slice A21 k21 ca21,.slice B21 l21 cb21] 38));have KY:=ZZ (al KX.out (al kk5 (ab W5 (.cells #[.bool s21,.slice A21 k21 ca21,.slice B21 l21 cb21] 38))));clear h5 kk5 y0 y1 y2 y3 y4 y5
        go_upto_region 21 with (fail)
        generalize W5.alloc (.cells #[.bool s21,.slice A21 k21 ca21,.slice B21 l21 cb21] _)=W6 at *;generalize W5.heap.size=gm at *;obtain⟨y0,y1,y2,y3,y4,y5,-⟩:=HC.out W6 KY.out;obtain⟨z0,z1,z2,-⟩:=aj RM.out;have E7:=ZZ (ab W6 (.cells #[.bool s21,.slice A21 k21 ca21,.slice B21 l21 cb21,.bool s2,.slice A2 k2 ca2,.slice B2 l2 cb2,.bool s1,.slice A1 k1 ca1,.slice B1 l1 cb1,.bool s21,.slice A21 k21 ca21,.slice B21 l21 cb21] 40));have EK:=ZZ (al E2.out (al KY.out E7.out));have SPA:=ZZ (show Sp (W6.alloc (.cells #[.bool s21,.slice A21 k21 ca21,.slice B21 l21 cb21,.bool s2,.slice A2 k2 ca2,.slice B2 l2 cb2,.bool s1,.slice A1 k1 ca1,.slice B1 l1 cb1,.bool s21,.slice A21 k21 ca21,.slice B21 l21 cb21] 40)) (.agg #[.bool s21,.slice A21 k21 ca21,.slice B21 l21 cb21,.bool s2,.slice A2 k2 ca2,.slice B2 l2 cb2]) mm2 hi from ⟨_,_,_,_,_,_,rfl,H5.out.mono E7.out,HHI.out.mono EK.out⟩);have SPB:=ZZ (show Sp (W6.alloc (.cells #[.bool s21,.slice A21 k21 ca21,.slice B21 l21 cb21,.bool s2,.slice A2 k2 ca2,.slice B2 l2 cb2,.bool s1,.slice A1 k1 ca1,.slice B1 l1 cb1,.bool s21,.slice A21 k21 ca21,.slice B21 l21 cb21] 40)) (.agg #[.bool s1,.slice A1 k1 ca1,.slice B1 l1 cb1,.bool s21,.slice A21 k21 ca21,.slice B21 l21 cb21]) lo mm2 from ⟨_,_,_,_,_,_,rfl,HLO.out.mono EK.out,H5.out.mono E7.out⟩);obtain⟨xs,hown,hx⟩:=HSP2.out.mono EK.out;have HOWN:=ZZ hown;have HX:=ZZ hx
        have C1:=ZZ (spN_new W6 [.bool s21,.slice A21 k21 ca21,.slice B21 l21 cb21,.bool s2,.slice A2 k2 ca2,.slice B2 l2 cb2,.bool s1,.slice A1 k1 ca1,.slice B1 l1 cb1,.bool s21,.slice A21 k21 ca21,.slice B21 l21 cb21]);have HRL:=ZZ (show rest.reverse.length=n from by rw [List.length_reverse];exact HNr.out);clear hown hx
        go_wp2_with (at_builtin;refine wpList_appendG2 elSp zero_sp rfl _ _ rfl wC.heap.size _ rest.reverse.length xs rfl HOWN.out ⟨W6.heap.size,0,none⟩ 2 _ [.bool s21,.slice A21 k21 ca21,.slice B21 l21 cb21,.bool s2,.slice A2 k2 ca2,.slice B2 l2 cb2,.bool s1,.slice A1 k1 ca1,.slice B1 l1 cb1,.bool s21,.slice A21 k21 ca21,.slice B21 l21 cb21] rfl rfl C1.out (by intro u hu;simp only [List.mem_cons,List.mem_nil_iff,or_false] at hu;rcases hu with rfl|rfl|rfl|rfl|rfl|rfl|rfl|rfl|rfl|rfl|rfl|rfl <;> rfl) (by intro u hu z e;subst e;simp at hu) (by decide) (by have h1:=HRL.out;have h2:=HNN.out;omega) (by have h1:=HRL.out;have h2:=HNN.out;unfold maxLen;omega) (al HE2.out EK.out).size ?_;intro v' W8 hown8 hgrow8 hblk8)
        clear y0 y1 y2 y3 y4 y5 z0 z1 z2;have OS8:=ZZ (OwnSp.snoc2 HOWN.out HX.out (a:=(mm2,hi)) (b:=(lo,mm2)) SPA.out SPB.out hgrow8 hown8);have OO8:=ZZ ((HO.out.mono EK.out).keep HOWN.out hgrow8 (fun r h1 h2=>HDJ.out r h1 h2));have EX8:=ZZ (ext_grownG (al HE2.out EK.out) HOWN.out hgrow8);have HL8:=ZZ (show rest.reverse.length+2=((lo,mm2) :: (mm2,hi) :: rest).length from by simp)
        have HD8:=ZZ (show ∀r,u10.ownBlock=some r→v'.ownBlock≠some r from fun r h1 h2=>by
         rcases hblk8 with h|h
         ·rw [h2] at h
          exact HDJ.out r h1 h.symm
         ·rw [h2] at h
          have h3:=(HO.out.lt r h1).2;have h4:=EK.out.size;have h5:=Option.some.inj h
          omega)
        obtain⟨g8,cap8,e8,-⟩:=hown8.cells (by omega);clear hown8 hgrow8 hblk8;subst e8
        go_upto_block 2 with (fail)
        go_roundg fo
        case measure=>omega
        case rel=>exact⟨(lo,mm2) :: (mm2,hi) :: rest,out,_,_,cap8,rfl,ZZ HL8.out.symm,HB4,HU4,ZZ (by have:=HFO.out;omega),OO8,ZZ (by have h:=OS8.out;rw [List.reverse_cons,List.reverse_cons];exact h),HD8,EX8⟩
 ·have z0:(z == 0)=false:=beq_eq_false_iff_ne.2 h0
  have z1:(z != 0)=true:=bne_iff_ne.2 h0;have HDE:=ZZ (show D=([],z) from by rw [←HD.out];unfold rootsE;rw [if_neg (by rw [HZ.out];exact h0),HZ.out]);clear h0;go_wp2_with fail;rw [Exit.noGoto_ret];refine bodyPost_ret (v:=.tuple #[.slice none 0 0,.int .i64 z]) (by simp [results,Tryz.f16]) rfl ?_;rw [HDE.out];exact⟨_,rfl,⟨none,0,rfl,Nat.le_refl _,.inl ⟨rfl,rfl⟩⟩,K1.out⟩
end Go.Proofs.YtkoaakefgacokaaGreatDoor
