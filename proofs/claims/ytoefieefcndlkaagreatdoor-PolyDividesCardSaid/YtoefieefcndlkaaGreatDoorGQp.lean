/- Plain: the laws of a ring for polynomials as lists of numbers, by their coefficients. Polynomials of the program: slices of numbers in memory, of others and of the call's own. Copies of slices of numbers. Trim and Deg of the program. The highest coefficient, quotients by a number that is not 0. Appending one number to a slice of the call's own, of whose block no cell is a digit. -/
import Derived.Test.YtoefieefcndlkaaGreatDoorGRat
import Derived.Test.YtoefieefcndlkaaGreatDoorGNg
import Derived.Laws.AppendOwn
import Derived.Test.YtoefieefcndlkaaGreatDoorGShelfB
import Derived.Deep.LoopGhost
import Derived.Deep.DeepCutAuto
import Derived.Maps.AppendAt
set_option linter.unusedVariables false
set_option maxRecDepth 100000
set_option maxHeartbeats 64000000
namespace Go.Proofs.YtoefieefcndlkaaGreatDoor
def cnv:(Nat→Rat)→(Nat→Rat)→Nat→Rat
 | f,g,0=>f 0*g 0
 | f,g,i+1=>f 0*g (i+1)+cnv (fun k=>f (k+1)) g i
theorem cnv_succ (f g:Nat→Rat) (i:Nat):cnv f g (i+1)=f 0*g (i+1)+cnv (fun k=>f (k+1)) g i:=rfl
theorem cnv_add_l (f g h:Nat→Rat) (i:Nat):cnv (fun k=>f k+g k) h i=cnv f h i+cnv g h i:=by
 induction i generalizing f g with
 | zero=>show (f 0+g 0)*h 0=f 0*h 0+g 0*h 0;grind
 | succ i ih=>rw [cnv_succ,cnv_succ,cnv_succ,ih (fun k=>f (k+1)) (fun k=>g (k+1))];grind
def dco (f:Nat→Rat) (k:Nat):Rat:=f (k+1)*((k+1:Nat):Rat)
theorem cnv_deriv (f g:Nat→Rat) (i:Nat):dco (cnv f g) i=cnv (dco f) g i+cnv f (dco g) i:=by
 induction i generalizing f with
 | zero=>
  show (f 0*g 1+f 1*g 0)*((1:Nat):Rat)=f 1*((1:Nat):Rat)*g 0+f 0*(g 1*((1:Nat):Rat))
  grind
 | succ i ih=>
  have h1:=ih (fun k=>f (k+1))
  have h2:cnv (fun k=>dco f (k+1)) g i=cnv (dco fun k=>f (k+1)) g i+cnv (fun k=>f (k+1+1)) g i:=by
   rw [←cnv_add_l]
   have e:(fun k=>dco f (k+1))=fun k=>dco (fun k=>f (k+1)) k+f (k+1+1):=by
    funext k
    show f (k+1+1)*((k+1+1:Nat):Rat)=f (k+1+1)*((k+1:Nat):Rat)+f (k+1+1)
    rw [show ((k+1+1:Nat):Rat)=((k+1:Nat):Rat)+1 from Rat.natCast_add _ _]
    grind
   rw [e]
  rw [cnv_succ (dco f) g i,cnv_succ f (dco g) i,h2]
  show cnv f g (i+1+1)*((i+1+1:Nat):Rat)=_
  rw [cnv_succ f g (i+1),show ((i+1+1:Nat):Rat)=((i+1:Nat):Rat)+1 from Rat.natCast_add _ _];have h3:dco (cnv (fun k=>f (k+1)) g) i=cnv (fun k=>f (k+1)) g (i+1)*((i+1:Nat):Rat):=rfl;have h4:cnv (fun k=>f (k+1)) g (i+1)=f 1*g (i+1)+cnv (fun k=>f (k+1+1)) g i:=rfl;have h5:dco f 0=f 1:=by show f 1*((1:Nat):Rat)=f 1;grind
  have h6:dco g (i+1)=g (i+1+1)*(((i+1:Nat):Rat)+1):=by
   show g (i+1+1)*((i+1+1:Nat):Rat)=_
   rw [show ((i+1+1:Nat):Rat)=((i+1:Nat):Rat)+1 from Rat.natCast_add _ _]
  rw [h3] at h1
  grind
def co (p:List Rat) (i:Nat):Rat:=p[i]?.getD 0
theorem co_nil (i:Nat):co [] i=0:=rfl
theorem co_succ (a:Rat) (p:List Rat) (i:Nat):co (a :: p) (i+1)=co p i:=rfl
theorem co_ge {p:List Rat} {i:Nat} (h:p.length≤i):co p i=0:=by unfold co;rw [List.getElem?_eq_none h];rfl
def trimF:List Rat→List Rat
 | []=>[]
 | a :: p=>if trimF p=[] then (if a=0 then [] else [a]) else a :: trimF p
theorem trim_zero {p:List Rat} (h:∀i,co p i=0):trimF p=[]:=by
 induction p with
 | nil=>rfl
 | cons a p ih=>
  have h0:a=0:=h 0
  show (if trimF p=[] then (if a=0 then [] else [a]) else a :: trimF p)=[]
  rw [ih (fun i=>h (i+1)),if_pos rfl,if_pos h0]
theorem co_trim (p:List Rat):∀i,co (trimF p) i=co p i:=by
 induction p with
 | nil=>exact fun _=>rfl
 | cons a p ih=>
  intro i
  show co (if trimF p=[] then (if a=0 then [] else [a]) else a :: trimF p) i=_
  by_cases h:trimF p=[]
  ·rw [if_pos h]
   have hz:∀j,co p j=0:=fun j=>by rw [←ih j,h];rfl
   by_cases ha:a=0
   ·rw [if_pos ha,ha]
    cases i with
    | zero=>rfl
    | succ i=>rw [co_succ,hz];rfl
   ·rw [if_neg ha]
    cases i with
    | zero=>rfl
    | succ i=>rw [co_succ,co_succ,hz];rfl
  ·rw [if_neg h]
   cases i with
   | zero=>rfl
   | succ i=>rw [co_succ,co_succ,ih]
theorem trim_co {p q:List Rat} (h:∀i,co p i=co q i):trimF p=trimF q:=by
 induction p generalizing q with
 | nil=>exact(trim_zero fun i=>(h i).symm).symm
 | cons a p ih=>
  cases q with
  | nil=>exact trim_zero h
  | cons b q=>
   have h0:a=b:=h 0;have h1:=ih (q:=q) (fun i=>h (i+1))
   show (if trimF p=[] then (if a=0 then [] else [a]) else a :: trimF p)=(if trimF q=[] then (if b=0 then [] else [b]) else b :: trimF q)
   rw [h0,h1]
theorem trim_trim (p:List Rat):trimF (trimF p)=trimF p:=trim_co (co_trim p)
theorem trim_snoc_zero (p:List Rat):trimF (p ++ [0])=trimF p:=by
 induction p with
 | nil=>simp [trimF]
 | cons a p ih=>show (if trimF (p ++ [0])=[] then (if a=0 then [] else [a]) else a :: trimF (p ++ [0]))=_;rw [ih];rfl
theorem trim_snoc {p:List Rat} {q:Rat} (h:q≠0):trimF (p ++ [q])=p ++ [q]:=by
 induction p with
 | nil=>simp [trimF,h]
 | cons a p ih=>
  show (if trimF (p ++ [q])=[] then (if a=0 then [] else [a]) else a :: trimF (p ++ [q]))=_
  rw [ih,if_neg (by simp)]
  rfl
theorem trim_last {p:List Rat} (h:trimF p≠[]):co p ((trimF p).length - 1)≠0:=by
 induction p with
 | nil=>exact absurd rfl h
 | cons a p ih=>
  have e:trimF (a :: p)=if trimF p=[] then (if a=0 then [] else [a]) else a :: trimF p:=rfl
  by_cases hp:trimF p=[]
  ·rw [e,if_pos hp] at h ⊢
   by_cases ha:a=0
   ·rw [if_pos ha] at h;exact absurd rfl h
   ·rw [if_neg ha];exact ha
  ·rw [e,if_neg hp] at h ⊢
   have h1:=ih hp;obtain⟨n,hn⟩:∃n,(trimF p).length=n+1:=⟨(trimF p).length - 1,by have:=List.length_pos_iff.2 hp;omega⟩;rw [hn] at h1
   show co (a :: p) ((a :: trimF p).length - 1)≠0
   rw [List.length_cons,hn];exact h1
def zipA:List Rat→List Rat→List Rat
 | [],q=>q
 | a :: p,[]=>a :: p
 | a :: p,b :: q=>(a+b) :: zipA p q
theorem co_zip (p q:List Rat):∀i,co (zipA p q) i=co p i+co q i:=by
 induction p generalizing q with
 | nil=>intro i;show co q i=0+co q i;grind
 | cons a p ih=>
  intro i
  cases q with
  | nil=>show co (a :: p) i=co (a :: p) i+0;grind
  | cons b q=>
   cases i with
   | zero=>rfl
   | succ i=>exact ih q i
theorem co_map (x:Rat) (p:List Rat):∀i,co (p.map (·*x)) i=co p i*x:=by
 induction p with
 | nil=>intro i;show (0:Rat)=0*x;grind
 | cons a p ih=>
  intro i
  cases i with
  | zero=>rfl
  | succ i=>exact ih i
def mulR:List Rat→List Rat→List Rat
 | [],_=>[]
 | a :: p,q=>zipA (q.map (·*a)) (0 :: mulR p q)
theorem cnv_zero_l (g:Nat→Rat) (i:Nat):cnv (fun _=>0) g i=0:=by
 induction i with
 | zero=>show 0*g 0=0;grind
 | succ i ih=>rw [cnv_succ];show 0*g (i+1)+cnv (fun _=>0) g i=0;rw [ih];grind
theorem co_mulR (p q:List Rat):∀i,co (mulR p q) i=cnv (co p) (co q) i:=by
 induction p with
 | nil=>intro i;exact(cnv_zero_l _ i).symm
 | cons a p ih=>
  intro i
  show co (zipA (q.map (·*a)) (0 :: mulR p q)) i=_
  rw [co_zip,co_map]
  cases i with
  | zero=>show co q 0*a+0=a*co q 0;grind
  | succ i=>
   show co q (i+1)*a+co (mulR p q) i=a*co q (i+1)+cnv (co p) (co q) i
   rw [ih];grind
def evR (p:List Rat) (x:Rat):Rat:=match p with|[]=>0|a :: p=>evR p x*x+a
theorem ev_zip (p q:List Rat) (x:Rat):evR (zipA p q) x=evR p x+evR q x:=by
 induction p generalizing q with
 | nil=>show evR q x=0+evR q x;grind
 | cons a p ih=>
  cases q with
  | nil=>show evR (a :: p) x=evR (a :: p) x+0;grind
  | cons b q=>show evR (zipA p q) x*x+(a+b)=evR p x*x+a+(evR q x*x+b);rw [ih];grind
theorem ev_map (c:Rat) (p:List Rat) (x:Rat):evR (p.map (·*c)) x=evR p x*c:=by
 induction p with
 | nil=>show (0:Rat)=0*c;grind
 | cons a p ih=>show evR (p.map (·*c)) x*x+a*c=(evR p x*x+a)*c;rw [ih];grind
theorem ev_mul (p q:List Rat) (x:Rat):evR (mulR p q) x=evR p x*evR q x:=by
 induction p with
 | nil=>show (0:Rat)=0*evR q x;grind
 | cons a p ih=>
  show evR (zipA (q.map (·*a)) (0 :: mulR p q)) x=(evR p x*x+a)*evR q x
  rw [ev_zip,ev_map]
  show evR q x*a+(evR (mulR p q) x*x+0)=_
  rw [ih];grind
theorem ev_zero {p:List Rat} (h:∀i,co p i=0) (x:Rat):evR p x=0:=by
 induction p with
 | nil=>rfl
 | cons a p ih=>
  have h0:a=0:=h 0
  show evR p x*x+a=0
  rw [ih (fun i=>h (i+1)),h0];grind
theorem ev_co {p q:List Rat} (h:∀i,co p i=co q i) (x:Rat):evR p x=evR q x:=by
 induction p generalizing q with
 | nil=>exact(ev_zero (fun i=>(h i).symm) x).symm
 | cons a p ih=>
  cases q with
  | nil=>exact ev_zero h x
  | cons b q=>
   have h0:a=b:=h 0
   show evR p x*x+a=evR q x*x+b
   rw [ih (q:=q) (fun i=>h (i+1)),h0]
theorem ev_trim (p:List Rat) (x:Rat):evR (trimF p) x=evR p x:=ev_co (co_trim p) x
end Go.Proofs.YtoefieefcndlkaaGreatDoor
set_option linter.unusedVariables false
set_option maxRecDepth 100000
set_option maxHeartbeats 64000000
namespace Go.Proofs.YtoefieefcndlkaaGreatDoor
open Go.RowKit
def Tri (w:World) (b j:Nat) (q:Rat):Prop:=∃s A k ca B m cb,w.cell? ⟨b,j,none⟩=some (.bool s)∧w.cell? ⟨b,j+1,none⟩=some (.slice A k ca)∧w.cell? ⟨b,j+2,none⟩=some (.slice B m cb)∧Nm w (.agg #[.bool s,.slice A k ca,.slice B m cb]) q
theorem Tri.mono {w w':World} {b j:Nat} {q:Rat} (h:Tri w b j q) (k:Ext w w'):Tri w' b j q:=by
 obtain⟨s,A,m,ca,B,n,cb,h1,h2,h3,h4⟩:=h;exact⟨s,A,m,ca,B,n,cb,am k h1,am k h2,am k h3,h4.mono k⟩
def Pl (w:World) (v:Value) (l:List Rat):Prop:=∃A cap,v=.slice A l.length cap∧l.length≤cap∧((A=none∧l=[])∨∃b o,A=some ⟨b,o,none⟩∧∀i q,l[i]?=some q→Tri w b (o+i*3) q)
theorem Pl.mono {w w':World} {v:Value} {l:List Rat} (h:Pl w v l) (k:Ext w w'):Pl w' v l:=by
 obtain⟨A,cap,h1,h2,h3⟩:=h;refine⟨A,cap,h1,h2,?_⟩
 rcases h3 with h3|⟨b,o,h4,h5⟩
 ·exact .inl h3
 ·exact .inr ⟨b,o,h4,fun i q hq=>(h5 i q hq).mono k⟩
theorem Pl.nil (w:World):Pl w (.slice none 0 0) []:=⟨none,0,rfl,Nat.le_refl _,.inl ⟨rfl,rfl⟩⟩
theorem Pl.take {w:World} {A:Option Addr} {n cap:Nat} {l:List Rat} (h:Pl w (.slice A n cap) l) {k:Nat} (hk:k≤l.length):Pl w (.slice A k cap) (l.take k):=by
 obtain⟨A',cap',e,h2,h3⟩:=h
 injection e with e1 e2 e3
 subst e1 e2 e3;have hl:(l.take k).length=k:=by simp [hk]
 refine⟨A,cap,by rw [hl],by rw [hl];omega,?_⟩
 rcases h3 with ⟨h4,h5⟩|⟨b,o,h4,h5⟩
 ·exact .inl ⟨h4,by rw [h5];simp⟩
 ·refine .inr ⟨b,o,h4,fun i q hq=>h5 i q ?_⟩
  rw [List.getElem?_take] at hq
  split at hq
  ·exact hq
  ·cases hq
def PlO (w:World) (g:Nat) (v:Value) (l:List Rat):Prop:=∃cap cur,v=.slice (some ⟨g,0,none⟩) l.length cap∧w.heap[g]?=some (.cells cur 52 (0,0))∧l.length≤cap∧cap≤maxLen∧cur.size=cap*3∧∀i q,l[i]?=some q→Tri w g (i*3) q
theorem PlO.pl {w:World} {g:Nat} {v:Value} {l:List Rat} (h:PlO w g v l):Pl w v l:=by
 obtain⟨cap,cur,h1,h2,h3,h4,h5,h6⟩:=h;exact⟨_,cap,h1,h3,.inr ⟨g,0,rfl,fun i q hq=>by rw [Nat.zero_add];exact h6 i q hq⟩⟩
def NoU (w:World) (g m:Nat):Prop:=∀(j:Nat) (z:Int),j<m→w.cell? ⟨g,j,none⟩≠some (.int .u64 z)
theorem PlO.noU {w:World} {g:Nat} {v:Value} {l:List Rat} (h:PlO w g v l):NoU w g (l.length*3):=by
 obtain⟨cap,cur,h1,h2,h3,h4,h5,h6⟩:=h;intro j z hj he;have hi:j / 3<l.length:=by omega
 obtain⟨s,A,k,ca,B,m,cb,c0,c1,c2,-⟩:=h6 (j / 3) (l[j / 3]'hi) (List.getElem?_eq_getElem hi)
 rcases(show j=j / 3*3∨j=j / 3*3+1∨j=j / 3*3+2 by omega) with e|e|e
 ·rw [e,c0] at he;cases he
 ·rw [e,c1] at he;cases he
 ·rw [e,c2] at he;cases he
theorem Wd.keepC {W W':World} {v:Value} {n g m:Nat} (h:Wd W v n) (hg:NoU W g m) (hk:∀b j,(b≠g∨m≤j)→W'.cell? ⟨b,j,none⟩=W.cell? ⟨b,j,none⟩):Wd W' v n:=by
 obtain⟨A,cc,e,hc,hcl⟩:=h;refine⟨A,cc,e,hc,?_⟩
 rcases Nat.eq_zero_or_pos (dg n).length with h0|h0
 ·left;rw [List.length_eq_zero_iff.1 h0];rfl
 ·obtain⟨bl,o,hA,hce⟩:=hcl.at_ (by simpa using h0)
  right
  refine⟨bl,o,hA,fun j hj=>?_⟩;have hj':j<(dg n).length:=by simpa using hj
  have h1:=hce j hj;rw [hk bl (o+j) ?_]
  ·exact h1
  ·rcases Classical.em (bl≠g∨m≤o+j) with hn|hn
   ·exact hn
   ·exfalso
    have hb:bl=g:=Classical.byContradiction fun e=>hn (.inl e);have hm:o+j<m:=Nat.lt_of_not_le fun e=>hn (.inr e);rw [getD_map_u64 _ _ hj'] at h1;subst hb;exact hg _ _ hm h1
theorem Nm.keepC {W W':World} {v:Value} {q:Rat} {g m:Nat} (h:Nm W v q) (hg:NoU W g m) (hk:∀b j,(b≠g∨m≤j)→W'.cell? ⟨b,j,none⟩=W.cell? ⟨b,j,none⟩):Nm W' v q:=by
 obtain⟨vn,vd,e,h1,h2⟩:=h;exact⟨vn,vd,e,h1.keepC hg hk,h2.keepC hg hk⟩
end Go.Proofs.YtoefieefcndlkaaGreatDoor
set_option linter.unusedVariables false
set_option maxRecDepth 100000
set_option maxHeartbeats 64000000
namespace Go.Proofs.YtoefieefcndlkaaGreatDoor
open Go.RowKit
def PlN (B:Nat) (w:World) (v:Value) (l:List Rat):Prop:=(v=.slice none 0 0∧l=[])∨∃g,B≤g∧PlO w g v l
theorem PlN.pl {B:Nat} {w:World} {v:Value} {l:List Rat} (h:PlN B w v l):Pl w v l:=by
 rcases h with ⟨rfl,rfl⟩|⟨g,-,h⟩
 ·exact Pl.nil w
 ·exact h.pl
theorem info_num:(Tryz.prog.info? 52).map (fun i=>(i.zero,i.size,i.bytes))=some (some (.agg #[.bool false,.slice none 0 0,.slice none 0 0]),3,56):=by kernel_rfl
def cellsL (w:World) (b o n:Nat):List Value:=(List.range n).map fun j=>(w.cell? ⟨b,o+j,none⟩).getD undef
theorem cellsL_get {w:World} {b o n j:Nat} (hj:j<n):(cellsL w b o n)[j]?=some ((w.cell? ⟨b,o+j,none⟩).getD undef):=by
 unfold cellsL;rw [List.getElem?_map,List.getElem?_range hj]
 rfl
theorem cellsL_lt {w:World} {b o n j:Nat} {u:Value} (h:(cellsL w b o n)[j]?=some u):j<n:=by
 have h1:=(List.getElem?_eq_some_iff.1 h).1
 simpa [cellsL] using h1
theorem owns_plo {w:World} {B:Nat} {v:Value} {l:List Rat} {xs:List Value} (h:w.ownsRow B 52 3 v l.length xs) (hne:v≠.slice none 0 0) (hx:∀i q,l[i]?=some q→∃s A k ca C m cb,xs[i*3]?=some (.bool s)∧xs[i*3+1]?=some (.slice A k ca)∧xs[i*3+2]?=some (.slice C m cb)∧Nm w (.agg #[.bool s,.slice A k ca,.slice C m cb]) q):∃g,B≤g∧PlO w g v l:=by
 obtain⟨hlen,h2⟩:=h
 rcases h2 with ⟨h3,-⟩|⟨g,cap,cur,hv,hb,hg,hc,hm,hs,ht⟩
 ·exact absurd h3 hne
 ·refine⟨g,hb,cap,cur,hv,hg,hc,hm,hs,fun i q hq=>?_⟩
  obtain⟨s,A,k,ca,C,m,cb,x0,x1,x2,hn⟩:=hx i q hq
  have key:∀(j:Nat) (u:Value),xs[j]?=some u→w.cell? ⟨g,j,none⟩=some u:=fun j u hu=>by
   rw [cell_of_row w g j _ _ _ hg];rw [←ht,List.getElem?_take] at hu
   split at hu
   ·simpa using hu
   ·cases hu
  exact⟨s,A,k,ca,C,m,cb,key _ _ x0,key _ _ x1,key _ _ x2,hn⟩
theorem tri_cell {w:World} {b o n:Nat} {l:List Rat} (hn:l.length=n) (ht:∀i q,l[i]?=some q→Tri w b (o+i*3) q) {j:Nat} (hj:j<n*3):∃u,w.cell? ⟨b,o+j,none⟩=some u∧u.oneCell'=true:=by
 have hi:j / 3<l.length:=by omega
 obtain⟨s,A,k,ca,B,m,cb,c0,c1,c2,-⟩:=ht (j / 3) (l[j / 3]'hi) (List.getElem?_eq_getElem hi)
 rcases(show o+j=o+j / 3*3∨o+j=o+j / 3*3+1∨o+j=o+j / 3*3+2 by omega) with e|e|e
 ·exact⟨_,by rw [e];exact c0,rfl⟩
 ·exact⟨_,by rw [e];exact c1,rfl⟩
 ·exact⟨_,by rw [e];exact c2,rfl⟩
theorem clone_q (v:Value) (l:List Rat) (hl:l.length≤1000000) (w:World) (h:Pl w v l):Calls Tryz.prog 104 #[v] w fun e w'=>∃v',e=.returned v'∧PlN w.heap.size w' v' l∧Ext w w':=by
 obtain⟨A,cap,rfl,hc,hA⟩:=h
 rcases hA with ⟨rfl,rfl⟩|⟨b,o,rfl,ht⟩
 ·refine(Tryz.slices_Clone_nil _ _ w).mono ?_
  rintro e w' ⟨rfl,rfl⟩;exact⟨_,rfl,.inl ⟨rfl,rfl⟩,ae _⟩
 ·obtain⟨i0,hi,hz0,hz1,hz2⟩:=info_parts info_num
  refine(Tryz.slices_Clone i0 _ 3 56 hi hz0 hz1 hz2 rfl (by decide) Tryz.sizeOf52 b o l.length cap (cellsL w b o (l.length*3)) w (by simp [cellsL]) (by unfold maxLen;omega) (by omega) (fun j u hu=>?_) (fun u hu=>?_)).mono ?_
  ·have hj:=cellsL_lt hu
   obtain⟨u',h1,-⟩:=tri_cell rfl ht hj;rw [cellsL_get hj,h1] at hu;rw [h1,←Option.some.inj hu];rfl
  ·obtain⟨j,hj⟩:=List.mem_iff_getElem?.1 hu
   have hj':=cellsL_lt hj;obtain⟨u',h1,h2⟩:=tri_cell rfl ht hj';rw [cellsL_get hj',h1] at hj;rw [←Option.some.inj hj];exact h2
  ·rintro e w' ⟨v',rfl,ho,hne,hb⟩
   refine⟨_,rfl,.inr (owns_plo ho hne fun i q hq=>?_),hb⟩;obtain⟨s,A,k,ca,C,m,cb,c0,c1,c2,hn⟩:=ht i q hq;have hi':i<l.length:=(List.getElem?_eq_some_iff.1 hq).1
   have g:∀(r:Nat) (u:Value),r<3→w.cell? ⟨b,o+i*3+r,none⟩=some u→(cellsL w b o (l.length*3))[i*3+r]?=some u:=fun r u hr hu=>by
    rw [cellsL_get (by omega),←Nat.add_assoc,hu];rfl
   exact⟨s,A,k,ca,C,m,cb,g 0 _ (by decide) c0,g 1 _ (by decide) c1,g 2 _ (by decide) c2,hn.mono hb⟩
end Go.Proofs.YtoefieefcndlkaaGreatDoor
set_option linter.unusedVariables false
set_option maxRecDepth 100000
set_option maxHeartbeats 64000000
namespace Go.Proofs.YtoefieefcndlkaaGreatDoor
open Go.RowKit
theorem num_zero_iff {q:Rat} {c:Int} (h:q.num.sign=c):c=0↔q=0:=by
 rw [←h,Int.sign_eq_zero_iff_zero];exact Rat.num_eq_zero
theorem trim_take_zero {l:List Rat} {k:Nat} (hq:l[k]?=some 0):trimF (l.take (k+1))=trimF (l.take k):=by
 rw [List.take_add_one,hq];exact trim_snoc_zero _
theorem trim_take_ne {l:List Rat} {k:Nat} {q:Rat} (hq:l[k]?=some q) (h:q≠0):trimF (l.take (k+1))=l.take (k+1):=by
 rw [List.take_add_one,hq];exact trim_snoc h
theorem trim_le (p:List Rat):(trimF p).length≤p.length:=by
 induction p with
 | nil=>exact Nat.le_refl _
 | cons a p ih=>
  show (if trimF p=[] then (if a=0 then [] else [a]) else a :: trimF p).length≤_
  split
  ·split <;> simp
  ·simpa using ih
theorem trim_q (v:Value) (l:List Rat) (hl:l.length≤1000000) (w:World) (h:Pl w v l):Calls Tryz.prog 47 #[v] w fun e w'=>∃v',e=.returned v'∧PlN w.heap.size w' v' (trimF l)∧Ext w w':=by
 obtain⟨A,cap,rfl,hc,hA⟩:=id h;have HP:=ZZ h;have HL:=ZZ hl;have HC:=ZZ hc;have HA:=ZZ hA;clear h hl hA hc
 go_enter Tryz.func47,Tryz.ntmps47
 go_wp2_with fail
 go_loopg [0] l.length (fun k p wr=>Hid (k≤l.length)∧p=.slice A k cap∧Hid (trimF (l.take k)=trimF l)∧Hid (Ext w wr))
 case atStart=>exact⟨ZZ (Nat.le_refl _),rfl,ZZ (by rw [List.take_length]),ZZ (ae _)⟩
 case round=>
  obtain⟨HK,rfl,HT,HE⟩:=hrel;rename World=>WR
  rcases Nat.eq_zero_or_pos gk with hz|hz
  ·subst hz
   have q1:decide ((0:Int)<((0:Nat):Int))=false:=rfl;go_wp2_with fail;refine(clone_q _ (l.take 0) (by simp) _ ((HP.out.mono HE.out).take (Nat.zero_le _))).mono ?_;rintro e w' ⟨v',rfl,hn,kk⟩;have e0:l.take 0=trimF l:=by rw [←HT.out];rfl
   rw [e0] at hn;have HN:=ZZ hn;have HK2:=ZZ kk;clear hn kk e0;go_wp2_with fail;go_ret;refine⟨_,rfl,?_,ak HE.out HK2.out⟩
   rcases HN.out with hn|⟨g,hg,hn⟩
   ·exact .inl hn
   ·exact .inr ⟨g,Nat.le_trans HE.out.size hg,hn⟩
  ·obtain⟨k,rfl⟩:∃k,gk=k+1:=⟨gk - 1,by omega⟩
   clear hz;have hk:=HK.out
   rcases HA.out with ⟨-,h5⟩|⟨b,o,rfl,ht⟩
   ·rw [h5] at hk;simp at hk
   obtain⟨q,hq⟩:∃q,l[k]?=some q:=⟨l[k]'(by omega),List.getElem?_eq_getElem _⟩;obtain⟨s,A1,k1,ca1,B1,l1,cb1,c0,c1,c2,hn⟩:=(ht k q hq).mono HE.out;obtain⟨c,hcs⟩:∃c,q.num.sign=c:=⟨_,rfl⟩;have HCS:=ZZ hcs;have HQ:=ZZ hq;have HN:=ZZ hn;have HT1:=ZZ ht;have q1:decide ((0:Int)<((k+1:Nat):Int))=true:=decide_eq_true (by omega);have q2:decide ((0:Int)<(k:Int)+1)=true:=decide_eq_true (by omega)
   have q3:IntKind.i64.wrap ((k:Int)+1 - 1)=(k:Int):=by
    have:=HL.out
    rw [show (k:Int)+1 - 1=k by omega];exact IntWalk.i64_in _ (by omega)
   have q3':IntKind.i64.wrap (k:Int)=(k:Int):=by
    have:=HL.out
    exact IntWalk.i64_in _ (by omega)
   have q4:(k:Int)<(k:Int)+1:=by omega
   have q5:(0:Int)≤(k:Int):=by omega
   have q6:(k:Int)≤(cap:Int):=by have:=HC.out;omega
   clear hcs hq hn ht hk;go_wp2_with fail;refine(sign_q' _ q _ c HCS.out HN.out).mono ?_;rintro e w5 ⟨rfl,k5⟩;have K5:=ZZ (ak HE.out k5);clear c0 c1 c2 k5
   by_cases hc0:c=0
   ·subst hc0
    have z0:((0:Int) == 0)=true:=rfl;have HZ:=ZZ ((num_zero_iff HCS.out).1 rfl);go_wp2_with fail
    go_roundg k
    case measure=>omega
    case rel=>exact⟨ZZ (by have:=HK.out;omega),rfl,ZZ (by have h1:=HQ.out;rw [HZ.out] at h1;rw [←trim_take_zero h1];exact HT.out),ZZ K5.out⟩
   ·have z0:(c == 0)=false:=beq_eq_false_iff_ne.2 hc0
    have HZ:=ZZ (fun e:q=0=>hc0 ((num_zero_iff HCS.out).2 e));clear hc0;go_wp2_with fail;refine(clone_q _ (l.take (k+1)) (by have:=HL.out;simp;omega) _ ((HP.out.mono K5.out).take HK.out)).mono ?_;rintro e w' ⟨v',rfl,hn,kk⟩;rw [show l.take (k+1)=trimF l by rw [←HT.out];exact(trim_take_ne HQ.out HZ.out).symm] at hn;have HN2:=ZZ hn;have HK2:=ZZ kk;clear hn kk;go_wp2_with fail;go_ret;refine⟨_,rfl,?_,ak K5.out HK2.out⟩
    rcases HN2.out with hn|⟨g,hg,hn⟩
    ·exact .inl hn
    ·exact .inr ⟨g,Nat.le_trans K5.out.size hg,hn⟩
theorem deg_q (v:Value) (l:List Rat) (hl:l.length≤1000000) (w:World) (h:Pl w v l):Calls Tryz.prog 16 #[v] w fun e w'=>e=.returned (.int .i64 (((trimF l).length:Int) - 1))∧Ext w w':=by
 have HP:=ZZ h;have HL:=ZZ hl;obtain⟨n,hn⟩:∃n,(trimF l).length=n:=⟨_,rfl⟩;rw [hn];have HN:=ZZ hn;have HT:=ZZ (show n≤l.length by rw [←hn];exact trim_le l);clear h hl hn
 go_enter Tryz.func16,Tryz.ntmps16
 go_wp2_with fail;refine(trim_q _ l HL.out _ HP.out).mono ?_
 rintro e w3 ⟨v3,rfl,h3,k3⟩;obtain⟨A,cap,e3,hc,-⟩:=h3.pl;rw [HN.out] at e3;subst e3;have K3:=ZZ k3
 have q3:IntKind.i64.wrap ((n:Int) - 1)=(n:Int) - 1:=by
  have:=HL.out
  have:=HT.out
  exact IntWalk.i64_in _ (by omega)
 clear h3 k3 hc;go_wp2_with fail;go_ret;exact⟨rfl,K3.out⟩
end Go.Proofs.YtoefieefcndlkaaGreatDoor
set_option linter.unusedVariables false
set_option maxRecDepth 100000
set_option maxHeartbeats 64000000
namespace Go.Proofs.YtoefieefcndlkaaGreatDoor
open Go.RowKit
theorem top_q (v:Value) (l:List Rat) (hl:l.length≤1000000) (n:Nat) (q:Rat) (hn:l.length=n+1) (hq:l[n]?=some q) (w:World) (h:Pl w v l):Calls Tryz.prog 87 #[v] w fun e w'=>∃v',e=.returned v'∧Nm w' v' q∧Ext w w':=by
 obtain⟨A,cap,rfl,hc,hA⟩:=h
 rcases hA with ⟨-,h5⟩|⟨b,o,rfl,ht⟩
 ·rw [h5] at hn;simp at hn
 rw [hn];obtain⟨s,A1,k1,ca1,B1,l1,cb1,d0,d1,d2,hx⟩:=ht n q hq;have HX:=ZZ hx;have e1:=ab w (.cells #[.bool false,.slice none 0 0,.slice none 0 0] 52);have c0:=am e1 d0;have c1:=am e1 d1;have c2:=am e1 d2
 have q3:IntKind.i64.wrap ((n:Int)+1 - 1)=(n:Int):=by
  rw [show (n:Int)+1 - 1=n by omega];exact IntWalk.i64_in _ (by omega)
 have q3':IntKind.i64.wrap (n:Int)=(n:Int):=IntWalk.i64_in _ (by omega);have q4:(n:Int)<(n:Int)+1:=by omega
 have q5:(0:Int)≤(n:Int):=by omega
 clear hl hn hq hc ht hx d0 d1 d2 e1
 go_enter Tryz.func87,Tryz.ntmps87
 go_wp2_with fail;refine bodyPost_ret (v:=.agg #[.bool s,.slice A1 k1 ca1,.slice B1 l1 cb1]) (by simp [results,Tryz.f87];go_simp) rfl ?_
 exact⟨_,rfl,HX.out.mono (ab _ _),ab _ _⟩
theorem over_q (M:Nat) (hM:M≤1099511627776) (vx vy:Value) (x y:Rat) (w:World) (hx:Nm w vx x) (hy:Nm w vy y) (bx:Bq M x) (by_:Bq M y) (h0:y≠0):Calls Tryz.prog 86 #[vx,vy] w fun e w'=>∃v,e=.returned v∧Nm w' v (x / y)∧Ext w w':=by
 obtain⟨s1,A1,k1,ca1,B1,l1,cb1,rfl⟩:=hx.form2;obtain⟨s2,A2,k2,ca2,B2,l2,cb2,rfl⟩:=hy.form2;have HX:=ZZ hx;have HY:=ZZ hy;have BX:=ZZ bx;have BY:=ZZ by_;have H0:=ZZ h0;have HM:=ZZ hM;have e1:=ab w (.cells #[.bool s1,.slice A1 k1 ca1,.slice B1 l1 cb1] 52);have e2:=ab (w.alloc (.cells #[.bool s1,.slice A1 k1 ca1,.slice B1 l1 cb1] 52)) (.cells #[.bool s2,.slice A2 k2 ca2,.slice B2 l2 cb2] 52);have e3:=ab ((w.alloc (.cells #[.bool s1,.slice A1 k1 ca1,.slice B1 l1 cb1] 52)).alloc (.cells #[.bool s2,.slice A2 k2 ca2,.slice B2 l2 cb2] 52)) (.cells #[.bool false,.slice none 0 0,.slice none 0 0] 52);have hz:=heap_alloc_new ((w.alloc (.cells #[.bool s1,.slice A1 k1 ca1,.slice B1 l1 cb1] 52)).alloc (.cells #[.bool s2,.slice A2 k2 ca2,.slice B2 l2 cb2] 52)) (.cells #[.bool false,.slice none 0 0,.slice none 0 0] 52);have hz:=show (((w.alloc (.cells #[.bool s1,.slice A1 k1 ca1,.slice B1 l1 cb1] 52)).alloc (.cells #[.bool s2,.slice A2 k2 ca2,.slice B2 l2 cb2] 52)).alloc (.cells #[.bool false,.slice none 0 0,.slice none 0 0] 52)).heap[w.heap.size+1+1]?=some (.cells #[.bool false,.slice none 0 0,.slice none 0 0] 52 (0,0)) by simpa using hz
 have HZ:=ZZ hz;have EW:=ZZ (ak e1 (ak e2 e3));have LE:=ZZ (show w.heap.size≤w.heap.size+1+1 from by omega);clear hx hy bx by_ h0 hM e1 e2 e3 hz
 go_enter Tryz.func86,Tryz.ntmps86
 go_wp2_with fail;refine(div_q M HM.out _ _ x y _ (HX.out.mono EW.out) (HY.out.mono EW.out) BX.out BY.out H0.out).mono ?_
 rintro e w4 ⟨v4,rfl,h4,k4⟩;obtain⟨s4,A4,k4',ca4,B4,l4,cb4,rfl⟩:=h4.form2;have E4:=ZZ (ak k4 (ab w4 (.cells #[.bool s4,.slice A4 k4' ca4,.slice B4 l4 cb4] 52)));have H4:=ZZ (h4.mono (ab w4 (.cells #[.bool s4,.slice A4 k4' ca4,.slice B4 l4 cb4] 52)));have hz4:=(E4.out.block _ (lt_of_block HZ.out)).trans HZ.out;have HZ4:=ZZ hz4;obtain⟨z0,z1,z2,zf0,zf1,zf2⟩:=ai hz4;clear h4 k4 hz4;go_wp2_with fail;refine bodyPost_ret (v:=.agg #[.bool s4,.slice A4 k4' ca4,.slice B4 l4 cb4]) (by simp [results,Tryz.f86];go_simp) rfl ?_;exact⟨_,rfl,H4.out.put3 HZ4.out,al (ak EW.out E4.out) LE.out _ _ _⟩
end Go.Proofs.YtoefieefcndlkaaGreatDoor
set_option linter.unusedVariables false
set_option maxRecDepth 100000
set_option maxHeartbeats 64000000
namespace Go.Proofs.YtoefieefcndlkaaGreatDoor
open Go.RowKit
def NotU (c:Value):Prop:=∀z,c≠.int .u64 z
def OwnR (w:World) (B:Nat) (v:Value) (n:Nat) (xs:List Value):Prop:=
 xs.length=n*3∧((v=.slice none 0 0∧n=0)∨∃g cap cur,v=.slice (some ⟨g,0,none⟩) n cap∧B≤g∧w.heap[g]?=some (.cells cur 52 (0,0))∧n≤cap∧cap≤maxLen∧cur.size=cap*3∧cur.toList.take (n*3)=xs∧∀c ∈ cur.toList,NotU c)
theorem OwnR.nil (w:World) (B:Nat):OwnR w B (.slice none 0 0) 0 []:=⟨rfl,.inl ⟨rfl,rfl⟩⟩
theorem zero_notU (n:Nat):∀c ∈ (Builtin.zeroCells #[.bool false,.slice none 0 0,.slice none 0 0] n).toList,NotU c:=by
 intro c hc z he;subst he;rw [Array.mem_toList_iff] at hc
 simp only [Builtin.zeroCells,Array.mem_map,Array.mem_range] at hc
 obtain⟨i,-,hi⟩:=hc
 have h3:i % (#[Value.bool false,Value.slice none 0 0,Value.slice none 0 0]:Array Value).size=0∨i % (#[Value.bool false,Value.slice none 0 0,Value.slice none 0 0]:Array Value).size=1∨i % (#[Value.bool false,Value.slice none 0 0,Value.slice none 0 0]:Array Value).size=2:=by
  show i % 3=0∨i % 3=1∨i % 3=2
  omega
 rcases h3 with e|e|e <;> rw [e] at hi <;> cases hi
theorem run_append1 (w:World) (B:Nat) (ty:TypeId) (v:Value) (n:Nat) (xs:List Value) (hown:OwnR w B v n xs) (a:Addr) (c:Nat) (news:List Value) (hl:news.length=3) (hnews:∀j u,news[j]?=some u→w.cell? (a.add j)=some u) (h1:∀u ∈ news,u.oneCell'=true) (hu:∀u ∈ news,NotU u) (hn:n≤1000000) (hB:B≤w.heap.size):∃v' w',(Builtin.append_ #[25,25] ty #[v,.slice (some a) 1 c]).run Tryz.prog w=.ok v' w'∧OwnR w' B v' (n+1) (xs ++ news)∧w.grownBy w' v.ownBlock:=by
 obtain⟨i,hi,hz0,hz1,hz2⟩:=info_parts info_num;have ht:=Tryz.underlying25;have hz3:(Value.agg #[.bool false,.slice none 0 0,.slice none 0 0]).cells=#[.bool false,.slice none 0 0,.slice none 0 0]:=rfl
 have grown:∀(old:Nat) (row:Option Nat),xs.length=n*3→(∀c ∈ xs,NotU c)→OwnR (w.drew.alloc (.cells (xs.toArray ++ news.toArray ++ Builtin.zeroCells (Value.agg #[.bool false,.slice none 0 0,.slice none 0 0]).cells (grownCap w (n+1) old 52 - (n+1))) 52)) B (.slice (some ⟨w.heap.size,0,none⟩) (n+1) (grownCap w (n+1) old 52)) (n+1) (xs ++ news)∧w.grownBy (w.drew.alloc (.cells (xs.toArray ++ news.toArray ++ Builtin.zeroCells (Value.agg #[.bool false,.slice none 0 0,.slice none 0 0]).cells (grownCap w (n+1) old 52 - (n+1))) 52)) row:=by
  intro old row hxl hxu;have hge:=grownCap_ge w (n+1) old 52;have hcm:grownCap w (n+1) old 52≤maxLen:=grownCap_le_maxLen w (n+1) old 52 (by unfold maxLen;omega);have hlen:(xs ++ news).length=(n+1)*3:=by rw [List.length_append,hxl,hl];omega
  refine⟨⟨hlen,.inr ⟨w.heap.size,_,_,rfl,hB,heap_alloc_new w.drew _,hge,hcm,?_,?_,?_⟩⟩,⟨rfl,rfl,rfl,by simp,fun k hk _=>heap_alloc_old w.drew _ hk⟩⟩
  ·rw [hz3]
   simp only [Array.size_append,List.size_toArray,size_zeroCells,hxl,hl]
   show n*3+3+(grownCap w (n+1) old 52 - (n+1))*3=_
   omega
  ·simp only [Array.toList_append,List.append_assoc]
   rw [←List.append_assoc,←hlen];exact List.take_left
  ·intro c hc
   rw [hz3] at hc
   simp only [Array.toList_append,List.mem_append] at hc
   rcases hc with (hc|hc)|hc
   ·exact hxu c hc
   ·exact hu c hc
   ·exact zero_notU _ c hc
 obtain⟨hxl,h2⟩:=hown
 rcases h2 with ⟨rfl,rfl⟩|⟨g,cap,cur,rfl,hbg,hg,hnc,hcm,hcs,htake,hnu⟩
 ·have hx:xs=[]:=List.eq_nil_of_length_eq_zero (by simpa using hxl)
  subst hx;have hr:=run_append_nil (P:=Tryz.prog) w 25 ty 52 i _ ht hi hz0 a 1 c news (by rw [hl,hz1]) hnews (by omega) (by omega) (by rw [hz2];omega);have hgr:=grown 0 (Value.ownBlock (.slice none 0 0)) rfl (fun c hc=>by cases hc)
  simp only [Nat.zero_add,List.nil_append,Array.empty_append] at hgr ⊢
  exact⟨_,_,hr,hgr.1,hgr.2⟩
 ·have hxu:∀c ∈ xs,NotU c:=fun c hc=>hnu c (List.mem_of_mem_take (by rw [htake];exact hc))
  by_cases hroom:n+1≤cap
  ·have hfit:n*i.size+news.length≤cur.size:=by rw [hl,hcs,hz1];omega
   have hr:=run_append_room (P:=Tryz.prog) w 25 ty 52 i ht hi g n cap cur hg a 1 c news (by rw [hl,hz1]) hnews h1 hroom hfit;rw [hz1] at hr;refine⟨_,_,hr,⟨by rw [List.length_append,hxl,hl];omega,.inr ⟨g,cap,_,rfl,hbg,setRow_heap w g cur _ _ _ hg,hroom,hcm,?_,?_,?_⟩⟩,⟨rfl,rfl,rfl,by simp,fun k _ hk=>setRow_other w g k _ (fun e=>hk (by simp [Value.ownBlock,e]))⟩⟩
   ·simp only [List.size_toArray,List.length_append,List.length_take,List.length_drop,Array.length_toList]
    omega
   ·rw [htake,show (n+1)*3=(xs ++ news).length by rw [List.length_append,hxl,hl];omega]
    exact List.take_left
   ·intro c hc
    simp only [List.mem_append] at hc
    rcases hc with (hc|hc)|hc
    ·rw [htake] at hc;exact hxu c hc
    ·exact hu c hc
    ·exact hnu c (List.mem_of_mem_drop hc)
  ·have holds:∀j u,xs[j]?=some u→w.cell? ((⟨g,0,none⟩:Addr).add j)=some u:=fun j u hj=>by
    have hc:w.cell? ⟨g,j,none⟩=some u:=by
     rw [cell_of_row w g j _ _ _ hg];rw [←htake,List.getElem?_take] at hj
     split at hj
     ·simpa using hj
     ·cases hj
    by_cases h0:j=0
    ·subst h0;exact hc
    ·simpa [Addr.add,h0] using hc
   have hr:=run_append_grow (P:=Tryz.prog) w 25 ty 52 i _ ht hi hz0 ⟨g,0,none⟩ n cap xs (by rw [hxl,hz1]) holds a 1 c news (by rw [hl,hz1]) hnews (by omega) (by omega) (growslice_fits (by omega) (by rw [hz2];omega));have hgr:=grown cap (Value.ownBlock (.slice (some ⟨g,0,none⟩) n cap)) hxl hxu;exact⟨_,_,hr,hgr.1,hgr.2⟩
theorem wpList_append1 {ops:Array Oper} {rest:List Oper} {o:Oper} {a:Act} {w:World} {Q:Exit→Act→World→Prop} (hgd:o.guard=none) (s x:Operand) (ho:o.op=.call { callee:=.builtin .append,args:=#[s,x],argTypes:=#[25,25] }) (B:Nat) (v:Value) (n:Nat) (xs:List Value) (hs:a.eval s=v) (hown:OwnR w B v n xs) (ad:Addr) (c:Nat) (news:List Value) (hx:a.eval x=.slice (some ad) 1 c) (hl:news.length=3) (hnews:∀j u,news[j]?=some u→w.cell? (ad.add j)=some u) (h1:∀u ∈ news,u.oneCell'=true) (hu:∀u ∈ news,NotU u) (hn:n≤1000000) (hB:B≤w.heap.size) (h:∀v' w',OwnR w' B v' (n+1) (xs ++ news)→w.grownBy w' v.ownBlock→wpList Tryz.prog ops Q rest (a.put o.dst v') w'):wpList Tryz.prog ops Q (o :: rest) a w:=by
 refine wpList_plain hgd fun K hK=>?_;obtain⟨v',w',hr,h2,h3⟩:=run_append1 w B o.type v n xs hown ad c news hl hnews h1 hu hn hB;unfold Oper.wp execOp
 simp only [ho,resolve,invoke,builtin,Sem.run_bind,Sem.run_pure,Result.andThen_ok,List.map_toArray,List.map_cons,List.map_nil,hs,hx,hr]
 exact hK _ _ (h v' w' h2 h3)
theorem OwnR.notU {w:World} {B:Nat} {v:Value} {n:Nat} {xs:List Value} (h:OwnR w B v n xs) {g:Nat} (hg:v.ownBlock=some g) (j:Nat) (z:Int):w.cell? ⟨g,j,none⟩≠some (.int .u64 z):=by
 intro hc;obtain⟨-,h2⟩:=h
 rcases h2 with ⟨rfl,-⟩|⟨g',cap,cur,rfl,-,hh,-,-,-,-,hnu⟩
 ·cases hg
 ·obtain rfl:g'=g:=Option.some.inj hg
  rw [cell_of_row w g' j _ _ _ hh] at hc
  have hm:(Value.int .u64 z) ∈ cur.toList:=by
   rw [Array.mem_toList_iff];exact Array.mem_of_getElem? hc
  exact hnu _ hm z rfl
theorem Wd.grownQ {w w':World} {v u:Value} {n B k:Nat} {xs:List Value} (h:Wd w v n) (hown:OwnR w B u k xs) (hg:w.grownBy w' u.ownBlock):Wd w' v n:=by
 obtain⟨A,cc,e,hc,hcl⟩:=h;refine⟨A,cc,e,hc,?_⟩
 rcases Nat.eq_zero_or_pos (dg n).length with h0|h0
 ·left;rw [List.length_eq_zero_iff.1 h0];rfl
 ·obtain⟨bl,o,hA,hce⟩:=hcl.at_ (by simpa using h0)
  right
  refine⟨bl,o,hA,fun j hj=>hg.cell (hce j hj) fun hb=>?_⟩;have hj':j<(dg n).length:=by simpa using hj
  have h1:=hce j hj;rw [getD_map_u64 _ _ hj'] at h1;exact hown.notU hb.symm _ _ h1
theorem Nm.grown {w w':World} {v u:Value} {q:Rat} {B k:Nat} {xs:List Value} (h:Nm w v q) (hown:OwnR w B u k xs) (hg:w.grownBy w' u.ownBlock):Nm w' v q:=by
 obtain⟨vn,vd,e,h1,h2⟩:=h;exact⟨vn,vd,e,h1.grownQ hown hg,h2.grownQ hown hg⟩
def OwnP (w:World) (B:Nat) (v:Value) (l:List Rat):Prop:=∃xs,OwnR w B v l.length xs∧∀i q,l[i]?=some q→∃s A k ca C m cb,xs[i*3]?=some (.bool s)∧xs[i*3+1]?=some (.slice A k ca)∧xs[i*3+2]?=some (.slice C m cb)∧Nm w (.agg #[.bool s,.slice A k ca,.slice C m cb]) q
theorem OwnP.nil (w:World) (B:Nat):OwnP w B (.slice none 0 0) []:=⟨[],OwnR.nil w B,fun i q h=>by cases h⟩
theorem OwnP.pl {w:World} {B:Nat} {v:Value} {l:List Rat} (h:OwnP w B v l):Pl w v l:=by
 obtain⟨xs,⟨hlen,h2⟩,hx⟩:=h
 rcases h2 with ⟨rfl,h0⟩|⟨g,cap,cur,rfl,-,hg,hc,-,-,ht,-⟩
 ·rw [List.length_eq_zero_iff.1 h0];exact Pl.nil w
 ·refine⟨_,cap,rfl,hc,.inr ⟨g,0,rfl,fun i q hq=>?_⟩⟩
  obtain⟨s,A,k,ca,C,m,cb,x0,x1,x2,hn⟩:=hx i q hq
  have key:∀(j:Nat) (u:Value),xs[j]?=some u→w.cell? ⟨g,j,none⟩=some u:=fun j u hu=>by
   rw [cell_of_row w g j _ _ _ hg];rw [←ht,List.getElem?_take] at hu
   split at hu
   ·simpa using hu
   ·cases hu
  rw [Nat.zero_add];exact⟨s,A,k,ca,C,m,cb,key _ _ x0,key _ _ x1,key _ _ x2,hn⟩
theorem OwnP.snoc {w w':World} {B:Nat} {v v':Value} {l:List Rat} {xs:List Value} {q:Rat} {s:Bool} {A C:Option Addr} {k ca m cb:Nat} (hown:OwnR w B v l.length xs) (hx:∀i q,l[i]?=some q→∃s A k ca C m cb,xs[i*3]?=some (.bool s)∧xs[i*3+1]?=some (.slice A k ca)∧xs[i*3+2]?=some (.slice C m cb)∧Nm w (.agg #[.bool s,.slice A k ca,.slice C m cb]) q) (hq:Nm w (.agg #[.bool s,.slice A k ca,.slice C m cb]) q) (hg:w.grownBy w' v.ownBlock) (h:OwnR w' B v' (l.length+1) (xs ++ [.bool s,.slice A k ca,.slice C m cb])):OwnP w' B v' (l ++ [q]):=by
 refine⟨_,by rw [List.length_append];exact h,fun i r hr=>?_⟩;have hxl:=hown.1
 rcases Nat.lt_or_ge i l.length with hi|hi
 ·rw [List.getElem?_append_left hi] at hr
  obtain⟨s1,A1,k1,ca1,C1,m1,cb1,x0,x1,x2,hn⟩:=hx i r hr;exact⟨s1,A1,k1,ca1,C1,m1,cb1,by rw [List.getElem?_append_left (by omega)];exact x0,by rw [List.getElem?_append_left (by omega)];exact x1,by rw [List.getElem?_append_left (by omega)];exact x2,hn.grown hown hg⟩
 ·rw [List.getElem?_append_right hi] at hr
  have hi0:i - l.length=0:=by
   rcases Nat.eq_zero_or_pos (i - l.length) with e|e
   ·exact e
   ·obtain⟨d,hd⟩:∃d,i - l.length=d+1:=⟨i - l.length - 1,by omega⟩
    rw [hd] at hr;simp at hr
  rw [hi0] at hr;obtain rfl:q=r:=Option.some.inj hr;obtain rfl:i=l.length:=by omega
  refine⟨s,A,k,ca,C,m,cb,?_,?_,?_,hq.grown hown hg⟩
  ·rw [List.getElem?_append_right (by omega),show l.length*3 - xs.length=0 by omega];rfl
  ·rw [List.getElem?_append_right (by omega),show l.length*3+1 - xs.length=1 by omega];rfl
  ·rw [List.getElem?_append_right (by omega),show l.length*3+2 - xs.length=2 by omega];rfl
end Go.Proofs.YtoefieefcndlkaaGreatDoor
