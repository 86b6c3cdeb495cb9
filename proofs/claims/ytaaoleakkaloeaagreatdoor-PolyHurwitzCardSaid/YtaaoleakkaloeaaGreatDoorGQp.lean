/- Plain: the laws of a ring for polynomials as lists of numbers, by their coefficients. Polynomials of the program: slices of numbers in memory, of others and of the call's own. Copies of slices of numbers. -/
import Derived.Test.YtaaoleakkaloeaaGreatDoorGRat
import Derived.Test.YtaaoleakkaloeaaGreatDoorGNg
import Derived.Laws.AppendOwn
import Derived.Test.YtaaoleakkaloeaaGreatDoorGShelfB
set_option linter.unusedVariables false
set_option maxRecDepth 100000
set_option maxHeartbeats 64000000
namespace Go.Proofs.YtaaoleakkaloeaaGreatDoor
def cnv:(Nat→Rat)→(Nat→Rat)→Nat→Rat
 | f,g,0=>f 0*g 0
 | f,g,i+1=>f 0*g (i+1)+cnv (fun k=>f (k+1)) g i
theorem cnv_succ (f g:Nat→Rat) (i:Nat):cnv f g (i+1)=f 0*g (i+1)+cnv (fun k=>f (k+1)) g i:=rfl
theorem cnv_add_l (f g h:Nat→Rat) (i:Nat):cnv (fun k=>f k+g k) h i=cnv f h i+cnv g h i:=by
 induction i generalizing f g with
 | zero=>show (f 0+g 0)*h 0=f 0*h 0+g 0*h 0;grind
 | succ i ih=>rw [cnv_succ,cnv_succ,cnv_succ,ih (fun k=>f (k+1)) (fun k=>g (k+1))];grind
def dco (f:Nat→Rat) (k:Nat):Rat:=f (k+1)*((k+1:Nat):Rat)
theorem cnv_deriv (f g:Nat→Rat) (i:Nat):dco (cnv f g) i=cnv (dco f) g i+cnv f (dco g) i:=by
 induction i generalizing f with
 | zero=>
  show (f 0*g 1+f 1*g 0)*((1:Nat):Rat)=f 1*((1:Nat):Rat)*g 0+f 0*(g 1*((1:Nat):Rat))
  grind
 | succ i ih=>
  have h1:=ih (fun k=>f (k+1))
  have h2:cnv (fun k=>dco f (k+1)) g i=cnv (dco fun k=>f (k+1)) g i+cnv (fun k=>f (k+1+1)) g i:=by
   rw [←cnv_add_l]
   have e:(fun k=>dco f (k+1))=fun k=>dco (fun k=>f (k+1)) k+f (k+1+1):=by
    funext k
    show f (k+1+1)*((k+1+1:Nat):Rat)=f (k+1+1)*((k+1:Nat):Rat)+f (k+1+1)
    rw [show ((k+1+1:Nat):Rat)=((k+1:Nat):Rat)+1 from Rat.natCast_add _ _]
    grind
   rw [e]
  rw [cnv_succ (dco f) g i,cnv_succ f (dco g) i,h2]
  show cnv f g (i+1+1)*((i+1+1:Nat):Rat)=_
  rw [cnv_succ f g (i+1),show ((i+1+1:Nat):Rat)=((i+1:Nat):Rat)+1 from Rat.natCast_add _ _];have h3:dco (cnv (fun k=>f (k+1)) g) i=cnv (fun k=>f (k+1)) g (i+1)*((i+1:Nat):Rat):=rfl;have h4:cnv (fun k=>f (k+1)) g (i+1)=f 1*g (i+1)+cnv (fun k=>f (k+1+1)) g i:=rfl;have h5:dco f 0=f 1:=by show f 1*((1:Nat):Rat)=f 1;grind
  have h6:dco g (i+1)=g (i+1+1)*(((i+1:Nat):Rat)+1):=by
   show g (i+1+1)*((i+1+1:Nat):Rat)=_
   rw [show ((i+1+1:Nat):Rat)=((i+1:Nat):Rat)+1 from Rat.natCast_add _ _]
  rw [h3] at h1
  grind
def co (p:List Rat) (i:Nat):Rat:=p[i]?.getD 0
theorem co_nil (i:Nat):co [] i=0:=rfl
theorem co_succ (a:Rat) (p:List Rat) (i:Nat):co (a :: p) (i+1)=co p i:=rfl
theorem co_ge {p:List Rat} {i:Nat} (h:p.length≤i):co p i=0:=by unfold co;rw [List.getElem?_eq_none h];rfl
def trimF:List Rat→List Rat
 | []=>[]
 | a :: p=>if trimF p=[] then (if a=0 then [] else [a]) else a :: trimF p
theorem trim_zero {p:List Rat} (h:∀i,co p i=0):trimF p=[]:=by
 induction p with
 | nil=>rfl
 | cons a p ih=>
  have h0:a=0:=h 0
  show (if trimF p=[] then (if a=0 then [] else [a]) else a :: trimF p)=[]
  rw [ih (fun i=>h (i+1)),if_pos rfl,if_pos h0]
theorem co_trim (p:List Rat):∀i,co (trimF p) i=co p i:=by
 induction p with
 | nil=>exact fun _=>rfl
 | cons a p ih=>
  intro i
  show co (if trimF p=[] then (if a=0 then [] else [a]) else a :: trimF p) i=_
  by_cases h:trimF p=[]
  ·rw [if_pos h]
   have hz:∀j,co p j=0:=fun j=>by rw [←ih j,h];rfl
   by_cases ha:a=0
   ·rw [if_pos ha,ha]
    cases i with
    | zero=>rfl
    | succ i=>rw [co_succ,hz];rfl
   ·rw [if_neg ha]
    cases i with
    | zero=>rfl
    | succ i=>rw [co_succ,co_succ,hz];rfl
  ·rw [if_neg h]
   cases i with
   | zero=>rfl
   | succ i=>rw [co_succ,co_succ,ih]
theorem trim_co {p q:List Rat} (h:∀i,co p i=co q i):trimF p=trimF q:=by
 induction p generalizing q with
 | nil=>exact(trim_zero fun i=>(h i).symm).symm
 | cons a p ih=>
  cases q with
  | nil=>exact trim_zero h
  | cons b q=>
   have h0:a=b:=h 0;have h1:=ih (q:=q) (fun i=>h (i+1))
   show (if trimF p=[] then (if a=0 then [] else [a]) else a :: trimF p)=(if trimF q=[] then (if b=0 then [] else [b]) else b :: trimF q)
   rw [h0,h1]
theorem trim_trim (p:List Rat):trimF (trimF p)=trimF p:=trim_co (co_trim p)
theorem trim_snoc_zero (p:List Rat):trimF (p ++ [0])=trimF p:=by
 induction p with
 | nil=>simp [trimF]
 | cons a p ih=>show (if trimF (p ++ [0])=[] then (if a=0 then [] else [a]) else a :: trimF (p ++ [0]))=_;rw [ih];rfl
theorem trim_snoc {p:List Rat} {q:Rat} (h:q≠0):trimF (p ++ [q])=p ++ [q]:=by
 induction p with
 | nil=>simp [trimF,h]
 | cons a p ih=>
  show (if trimF (p ++ [q])=[] then (if a=0 then [] else [a]) else a :: trimF (p ++ [q]))=_
  rw [ih,if_neg (by simp)]
  rfl
theorem trim_last {p:List Rat} (h:trimF p≠[]):co p ((trimF p).length - 1)≠0:=by
 induction p with
 | nil=>exact absurd rfl h
 | cons a p ih=>
  have e:trimF (a :: p)=if trimF p=[] then (if a=0 then [] else [a]) else a :: trimF p:=rfl
  by_cases hp:trimF p=[]
  ·rw [e,if_pos hp] at h ⊢
   by_cases ha:a=0
   ·rw [if_pos ha] at h;exact absurd rfl h
   ·rw [if_neg ha];exact ha
  ·rw [e,if_neg hp] at h ⊢
   have h1:=ih hp;obtain⟨n,hn⟩:∃n,(trimF p).length=n+1:=⟨(trimF p).length - 1,by have:=List.length_pos_iff.2 hp;omega⟩;rw [hn] at h1
   show co (a :: p) ((a :: trimF p).length - 1)≠0
   rw [List.length_cons,hn];exact h1
def zipA:List Rat→List Rat→List Rat
 | [],q=>q
 | a :: p,[]=>a :: p
 | a :: p,b :: q=>(a+b) :: zipA p q
theorem co_zip (p q:List Rat):∀i,co (zipA p q) i=co p i+co q i:=by
 induction p generalizing q with
 | nil=>intro i;show co q i=0+co q i;grind
 | cons a p ih=>
  intro i
  cases q with
  | nil=>show co (a :: p) i=co (a :: p) i+0;grind
  | cons b q=>
   cases i with
   | zero=>rfl
   | succ i=>exact ih q i
theorem co_map (x:Rat) (p:List Rat):∀i,co (p.map (·*x)) i=co p i*x:=by
 induction p with
 | nil=>intro i;show (0:Rat)=0*x;grind
 | cons a p ih=>
  intro i
  cases i with
  | zero=>rfl
  | succ i=>exact ih i
def mulR:List Rat→List Rat→List Rat
 | [],_=>[]
 | a :: p,q=>zipA (q.map (·*a)) (0 :: mulR p q)
theorem cnv_zero_l (g:Nat→Rat) (i:Nat):cnv (fun _=>0) g i=0:=by
 induction i with
 | zero=>show 0*g 0=0;grind
 | succ i ih=>rw [cnv_succ];show 0*g (i+1)+cnv (fun _=>0) g i=0;rw [ih];grind
theorem co_mulR (p q:List Rat):∀i,co (mulR p q) i=cnv (co p) (co q) i:=by
 induction p with
 | nil=>intro i;exact(cnv_zero_l _ i).symm
 | cons a p ih=>
  intro i
  show co (zipA (q.map (·*a)) (0 :: mulR p q)) i=_
  rw [co_zip,co_map]
  cases i with
  | zero=>show co q 0*a+0=a*co q 0;grind
  | succ i=>
   show co q (i+1)*a+co (mulR p q) i=a*co q (i+1)+cnv (co p) (co q) i
   rw [ih];grind
def evR (p:List Rat) (x:Rat):Rat:=match p with|[]=>0|a :: p=>evR p x*x+a
theorem ev_zip (p q:List Rat) (x:Rat):evR (zipA p q) x=evR p x+evR q x:=by
 induction p generalizing q with
 | nil=>show evR q x=0+evR q x;grind
 | cons a p ih=>
  cases q with
  | nil=>show evR (a :: p) x=evR (a :: p) x+0;grind
  | cons b q=>show evR (zipA p q) x*x+(a+b)=evR p x*x+a+(evR q x*x+b);rw [ih];grind
theorem ev_map (c:Rat) (p:List Rat) (x:Rat):evR (p.map (·*c)) x=evR p x*c:=by
 induction p with
 | nil=>show (0:Rat)=0*c;grind
 | cons a p ih=>show evR (p.map (·*c)) x*x+a*c=(evR p x*x+a)*c;rw [ih];grind
theorem ev_mul (p q:List Rat) (x:Rat):evR (mulR p q) x=evR p x*evR q x:=by
 induction p with
 | nil=>show (0:Rat)=0*evR q x;grind
 | cons a p ih=>
  show evR (zipA (q.map (·*a)) (0 :: mulR p q)) x=(evR p x*x+a)*evR q x
  rw [ev_zip,ev_map]
  show evR q x*a+(evR (mulR p q) x*x+0)=_
  rw [ih];grind
theorem ev_zero {p:List Rat} (h:∀i,co p i=0) (x:Rat):evR p x=0:=by
 induction p with
 | nil=>rfl
 | cons a p ih=>
  have h0:a=0:=h 0
  show evR p x*x+a=0
  rw [ih (fun i=>h (i+1)),h0];grind
theorem ev_co {p q:List Rat} (h:∀i,co p i=co q i) (x:Rat):evR p x=evR q x:=by
 induction p generalizing q with
 | nil=>exact(ev_zero (fun i=>(h i).symm) x).symm
 | cons a p ih=>
  cases q with
  | nil=>exact ev_zero h x
  | cons b q=>
   have h0:a=b:=h 0
   show evR p x*x+a=evR q x*x+b
   rw [ih (q:=q) (fun i=>h (i+1)),h0]
theorem ev_trim (p:List Rat) (x:Rat):evR (trimF p) x=evR p x:=ev_co (co_trim p) x
end Go.Proofs.YtaaoleakkaloeaaGreatDoor
set_option linter.unusedVariables false
set_option maxRecDepth 100000
set_option maxHeartbeats 64000000
namespace Go.Proofs.YtaaoleakkaloeaaGreatDoor
open Go.RowKit
def Tri (w:World) (b j:Nat) (q:Rat):Prop:=∃s A k ca B m cb,w.cell? ⟨b,j,none⟩=some (.bool s)∧w.cell? ⟨b,j+1,none⟩=some (.slice A k ca)∧w.cell? ⟨b,j+2,none⟩=some (.slice B m cb)∧Nm w (.agg #[.bool s,.slice A k ca,.slice B m cb]) q
theorem Tri.mono {w w':World} {b j:Nat} {q:Rat} (h:Tri w b j q) (k:Ext w w'):Tri w' b j q:=by
 obtain⟨s,A,m,ca,B,n,cb,h1,h2,h3,h4⟩:=h;exact⟨s,A,m,ca,B,n,cb,am k h1,am k h2,am k h3,h4.mono k⟩
def Pl (w:World) (v:Value) (l:List Rat):Prop:=∃A cap,v=.slice A l.length cap∧l.length≤cap∧((A=none∧l=[])∨∃b o,A=some ⟨b,o,none⟩∧∀i q,l[i]?=some q→Tri w b (o+i*3) q)
theorem Pl.mono {w w':World} {v:Value} {l:List Rat} (h:Pl w v l) (k:Ext w w'):Pl w' v l:=by
 obtain⟨A,cap,h1,h2,h3⟩:=h;refine⟨A,cap,h1,h2,?_⟩
 rcases h3 with h3|⟨b,o,h4,h5⟩
 ·exact .inl h3
 ·exact .inr ⟨b,o,h4,fun i q hq=>(h5 i q hq).mono k⟩
theorem Pl.nil (w:World):Pl w (.slice none 0 0) []:=⟨none,0,rfl,Nat.le_refl _,.inl ⟨rfl,rfl⟩⟩
theorem Pl.take {w:World} {A:Option Addr} {n cap:Nat} {l:List Rat} (h:Pl w (.slice A n cap) l) {k:Nat} (hk:k≤l.length):Pl w (.slice A k cap) (l.take k):=by
 obtain⟨A',cap',e,h2,h3⟩:=h
 injection e with e1 e2 e3
 subst e1 e2 e3;have hl:(l.take k).length=k:=by simp [hk]
 refine⟨A,cap,by rw [hl],by rw [hl];omega,?_⟩
 rcases h3 with ⟨h4,h5⟩|⟨b,o,h4,h5⟩
 ·exact .inl ⟨h4,by rw [h5];simp⟩
 ·refine .inr ⟨b,o,h4,fun i q hq=>h5 i q ?_⟩
  rw [List.getElem?_take] at hq
  split at hq
  ·exact hq
  ·cases hq
def PlO (w:World) (g:Nat) (v:Value) (l:List Rat):Prop:=∃cap cur,v=.slice (some ⟨g,0,none⟩) l.length cap∧w.heap[g]?=some (.cells cur 36 (0,0))∧l.length≤cap∧cap≤maxLen∧cur.size=cap*3∧∀i q,l[i]?=some q→Tri w g (i*3) q
theorem PlO.pl {w:World} {g:Nat} {v:Value} {l:List Rat} (h:PlO w g v l):Pl w v l:=by
 obtain⟨cap,cur,h1,h2,h3,h4,h5,h6⟩:=h;exact⟨_,cap,h1,h3,.inr ⟨g,0,rfl,fun i q hq=>by rw [Nat.zero_add];exact h6 i q hq⟩⟩
def NoU (w:World) (g m:Nat):Prop:=∀(j:Nat) (z:Int),j<m→w.cell? ⟨g,j,none⟩≠some (.int .u64 z)
theorem PlO.noU {w:World} {g:Nat} {v:Value} {l:List Rat} (h:PlO w g v l):NoU w g (l.length*3):=by
 obtain⟨cap,cur,h1,h2,h3,h4,h5,h6⟩:=h;intro j z hj he;have hi:j / 3<l.length:=by omega
 obtain⟨s,A,k,ca,B,m,cb,c0,c1,c2,-⟩:=h6 (j / 3) (l[j / 3]'hi) (List.getElem?_eq_getElem hi)
 rcases(show j=j / 3*3∨j=j / 3*3+1∨j=j / 3*3+2 by omega) with e|e|e
 ·rw [e,c0] at he;cases he
 ·rw [e,c1] at he;cases he
 ·rw [e,c2] at he;cases he
theorem Wd.keepC {W W':World} {v:Value} {n g m:Nat} (h:Wd W v n) (hg:NoU W g m) (hk:∀b j,(b≠g∨m≤j)→W'.cell? ⟨b,j,none⟩=W.cell? ⟨b,j,none⟩):Wd W' v n:=by
 obtain⟨A,cc,e,hc,hcl⟩:=h;refine⟨A,cc,e,hc,?_⟩
 rcases Nat.eq_zero_or_pos (dg n).length with h0|h0
 ·left;rw [List.length_eq_zero_iff.1 h0];rfl
 ·obtain⟨bl,o,hA,hce⟩:=hcl.at_ (by simpa using h0)
  right
  refine⟨bl,o,hA,fun j hj=>?_⟩;have hj':j<(dg n).length:=by simpa using hj
  have h1:=hce j hj;rw [hk bl (o+j) ?_]
  ·exact h1
  ·rcases Classical.em (bl≠g∨m≤o+j) with hn|hn
   ·exact hn
   ·exfalso
    have hb:bl=g:=Classical.byContradiction fun e=>hn (.inl e);have hm:o+j<m:=Nat.lt_of_not_le fun e=>hn (.inr e);rw [getD_map_u64 _ _ hj'] at h1;subst hb;exact hg _ _ hm h1
theorem Nm.keepC {W W':World} {v:Value} {q:Rat} {g m:Nat} (h:Nm W v q) (hg:NoU W g m) (hk:∀b j,(b≠g∨m≤j)→W'.cell? ⟨b,j,none⟩=W.cell? ⟨b,j,none⟩):Nm W' v q:=by
 obtain⟨vn,vd,e,h1,h2⟩:=h;exact⟨vn,vd,e,h1.keepC hg hk,h2.keepC hg hk⟩
end Go.Proofs.YtaaoleakkaloeaaGreatDoor
set_option linter.unusedVariables false
set_option maxRecDepth 100000
set_option maxHeartbeats 64000000
namespace Go.Proofs.YtaaoleakkaloeaaGreatDoor
open Go.RowKit
def PlN (B:Nat) (w:World) (v:Value) (l:List Rat):Prop:=(v=.slice none 0 0∧l=[])∨∃g,B≤g∧PlO w g v l
theorem PlN.pl {B:Nat} {w:World} {v:Value} {l:List Rat} (h:PlN B w v l):Pl w v l:=by
 rcases h with ⟨rfl,rfl⟩|⟨g,-,h⟩
 ·exact Pl.nil w
 ·exact h.pl
theorem info_num:(Tryz.prog.info? 36).map (fun i=>(i.zero,i.size,i.bytes))=some (some (.agg #[.bool false,.slice none 0 0,.slice none 0 0]),3,56):=by kernel_rfl
def cellsL (w:World) (b o n:Nat):List Value:=(List.range n).map fun j=>(w.cell? ⟨b,o+j,none⟩).getD undef
theorem cellsL_get {w:World} {b o n j:Nat} (hj:j<n):(cellsL w b o n)[j]?=some ((w.cell? ⟨b,o+j,none⟩).getD undef):=by
 unfold cellsL;rw [List.getElem?_map,List.getElem?_range hj]
 rfl
theorem cellsL_lt {w:World} {b o n j:Nat} {u:Value} (h:(cellsL w b o n)[j]?=some u):j<n:=by
 have h1:=(List.getElem?_eq_some_iff.1 h).1
 simpa [cellsL] using h1
theorem owns_plo {w:World} {B:Nat} {v:Value} {l:List Rat} {xs:List Value} (h:w.ownsRow B 36 3 v l.length xs) (hne:v≠.slice none 0 0) (hx:∀i q,l[i]?=some q→∃s A k ca C m cb,xs[i*3]?=some (.bool s)∧xs[i*3+1]?=some (.slice A k ca)∧xs[i*3+2]?=some (.slice C m cb)∧Nm w (.agg #[.bool s,.slice A k ca,.slice C m cb]) q):∃g,B≤g∧PlO w g v l:=by
 obtain⟨hlen,h2⟩:=h
 rcases h2 with ⟨h3,-⟩|⟨g,cap,cur,hv,hb,hg,hc,hm,hs,ht⟩
 ·exact absurd h3 hne
 ·refine⟨g,hb,cap,cur,hv,hg,hc,hm,hs,fun i q hq=>?_⟩
  obtain⟨s,A,k,ca,C,m,cb,x0,x1,x2,hn⟩:=hx i q hq
  have key:∀(j:Nat) (u:Value),xs[j]?=some u→w.cell? ⟨g,j,none⟩=some u:=fun j u hu=>by
   rw [cell_of_row w g j _ _ _ hg];rw [←ht,List.getElem?_take] at hu
   split at hu
   ·simpa using hu
   ·cases hu
  exact⟨s,A,k,ca,C,m,cb,key _ _ x0,key _ _ x1,key _ _ x2,hn⟩
theorem tri_cell {w:World} {b o n:Nat} {l:List Rat} (hn:l.length=n) (ht:∀i q,l[i]?=some q→Tri w b (o+i*3) q) {j:Nat} (hj:j<n*3):∃u,w.cell? ⟨b,o+j,none⟩=some u∧u.oneCell'=true:=by
 have hi:j / 3<l.length:=by omega
 obtain⟨s,A,k,ca,B,m,cb,c0,c1,c2,-⟩:=ht (j / 3) (l[j / 3]'hi) (List.getElem?_eq_getElem hi)
 rcases(show o+j=o+j / 3*3∨o+j=o+j / 3*3+1∨o+j=o+j / 3*3+2 by omega) with e|e|e
 ·exact⟨_,by rw [e];exact c0,rfl⟩
 ·exact⟨_,by rw [e];exact c1,rfl⟩
 ·exact⟨_,by rw [e];exact c2,rfl⟩
theorem clone_q (v:Value) (l:List Rat) (hl:l.length≤1000000) (w:World) (h:Pl w v l):Calls Tryz.prog 30 #[v] w fun e w'=>∃v',e=.returned v'∧PlN w.heap.size w' v' l∧Ext w w':=by
 obtain⟨A,cap,rfl,hc,hA⟩:=h
 rcases hA with ⟨rfl,rfl⟩|⟨b,o,rfl,ht⟩
 ·refine(Tryz.slices_Clone_nil _ _ w).mono ?_
  rintro e w' ⟨rfl,rfl⟩;exact⟨_,rfl,.inl ⟨rfl,rfl⟩,ae _⟩
 ·obtain⟨i0,hi,hz0,hz1,hz2⟩:=info_parts info_num
  refine(Tryz.slices_Clone i0 _ 3 56 hi hz0 hz1 hz2 rfl (by decide) Tryz.sizeOf36 b o l.length cap (cellsL w b o (l.length*3)) w (by simp [cellsL]) (by unfold maxLen;omega) (by omega) (fun j u hu=>?_) (fun u hu=>?_)).mono ?_
  ·have hj:=cellsL_lt hu
   obtain⟨u',h1,-⟩:=tri_cell rfl ht hj;rw [cellsL_get hj,h1] at hu;rw [h1,←Option.some.inj hu];rfl
  ·obtain⟨j,hj⟩:=List.mem_iff_getElem?.1 hu
   have hj':=cellsL_lt hj;obtain⟨u',h1,h2⟩:=tri_cell rfl ht hj';rw [cellsL_get hj',h1] at hj;rw [←Option.some.inj hj];exact h2
  ·rintro e w' ⟨v',rfl,ho,hne,hb⟩
   refine⟨_,rfl,.inr (owns_plo ho hne fun i q hq=>?_),hb⟩;obtain⟨s,A,k,ca,C,m,cb,c0,c1,c2,hn⟩:=ht i q hq;have hi':i<l.length:=(List.getElem?_eq_some_iff.1 hq).1
   have g:∀(r:Nat) (u:Value),r<3→w.cell? ⟨b,o+i*3+r,none⟩=some u→(cellsL w b o (l.length*3))[i*3+r]?=some u:=fun r u hr hu=>by
    rw [cellsL_get (by omega),←Nat.add_assoc,hu];rfl
   exact⟨s,A,k,ca,C,m,cb,g 0 _ (by decide) c0,g 1 _ (by decide) c1,g 2 _ (by decide) c2,hn.mono hb⟩
end Go.Proofs.YtaaoleakkaloeaaGreatDoor
