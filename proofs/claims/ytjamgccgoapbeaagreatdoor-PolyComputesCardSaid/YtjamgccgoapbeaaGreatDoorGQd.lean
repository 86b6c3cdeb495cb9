/- Polynomials of the program: slices of numbers in memory, of others and of the call's own. Copies of slices of numbers. Trim and Deg of the program. The highest coefficient, quotients by a number that is not 0. -/
import Derived.Test.YtjamgccgoapbeaaGreatDoorGNg
import Derived.Laws.AppendOwn
import Derived.Test.YtjamgccgoapbeaaGreatDoorGShelfB
import Derived.Test.YtjamgccgoapbeaaGreatDoorGRd
import Derived.Deep.LoopGhost
import Derived.Deep.DeepCutAuto
set_option linter.unusedVariables false
set_option maxRecDepth 100000
set_option maxHeartbeats 64000000
namespace Go.Proofs.YtjamgccgoapbeaaGreatDoor
open Go.RowKit
def Tri (w:World) (b j:Nat) (q:Rat):Prop:=∃s A k ca B m cb,w.cell? ⟨b,j,none⟩=some (.bool s)∧w.cell? ⟨b,j+1,none⟩=some (.slice A k ca)∧w.cell? ⟨b,j+2,none⟩=some (.slice B m cb)∧Nm w (.agg #[.bool s,.slice A k ca,.slice B m cb]) q
theorem Tri.mono {w w':World} {b j:Nat} {q:Rat} (h:Tri w b j q) (k:Ext w w'):Tri w' b j q:=by
 obtain⟨s,A,m,ca,B,n,cb,h1,h2,h3,h4⟩:=h;exact⟨s,A,m,ca,B,n,cb,ar k h1,ar k h2,ar k h3,h4.mono k⟩
def Pl (w:World) (v:Value) (l:List Rat):Prop:=∃A cap,v=.slice A l.length cap∧l.length≤cap∧((A=none∧l=[])∨∃b o,A=some ⟨b,o,none⟩∧∀i q,l[i]?=some q→Tri w b (o+i*3) q)
theorem Pl.mono {w w':World} {v:Value} {l:List Rat} (h:Pl w v l) (k:Ext w w'):Pl w' v l:=by
 obtain⟨A,cap,h1,h2,h3⟩:=h;refine⟨A,cap,h1,h2,?_⟩
 rcases h3 with h3|⟨b,o,h4,h5⟩
 ·exact .inl h3
 ·exact .inr ⟨b,o,h4,fun i q hq=>(h5 i q hq).mono k⟩
theorem Pl.nil (w:World):Pl w (.slice none 0 0) []:=⟨none,0,rfl,Nat.le_refl _,.inl ⟨rfl,rfl⟩⟩
theorem Pl.take {w:World} {A:Option Addr} {n cap:Nat} {l:List Rat} (h:Pl w (.slice A n cap) l) {k:Nat} (hk:k≤l.length):Pl w (.slice A k cap) (l.take k):=by
 obtain⟨A',cap',e,h2,h3⟩:=h
 injection e with e1 e2 e3
 subst e1 e2 e3;have hl:(l.take k).length=k:=by simp [hk]
 refine⟨A,cap,by rw [hl],by rw [hl];omega,?_⟩
 rcases h3 with ⟨h4,h5⟩|⟨b,o,h4,h5⟩
 ·exact .inl ⟨h4,by rw [h5];simp⟩
 ·refine .inr ⟨b,o,h4,fun i q hq=>h5 i q ?_⟩
  rw [List.getElem?_take] at hq
  split at hq
  ·exact hq
  ·cases hq
def PlO (w:World) (g:Nat) (v:Value) (l:List Rat):Prop:=∃cap cur,v=.slice (some ⟨g,0,none⟩) l.length cap∧w.heap[g]?=some (.cells cur 35 (0,0))∧l.length≤cap∧cap≤maxLen∧cur.size=cap*3∧∀i q,l[i]?=some q→Tri w g (i*3) q
theorem PlO.pl {w:World} {g:Nat} {v:Value} {l:List Rat} (h:PlO w g v l):Pl w v l:=by
 obtain⟨cap,cur,h1,h2,h3,h4,h5,h6⟩:=h;exact⟨_,cap,h1,h3,.inr ⟨g,0,rfl,fun i q hq=>by rw [Nat.zero_add];exact h6 i q hq⟩⟩
def NoU (w:World) (g m:Nat):Prop:=∀(j:Nat) (z:Int),j<m→w.cell? ⟨g,j,none⟩≠some (.int .u64 z)
theorem PlO.noU {w:World} {g:Nat} {v:Value} {l:List Rat} (h:PlO w g v l):NoU w g (l.length*3):=by
 obtain⟨cap,cur,h1,h2,h3,h4,h5,h6⟩:=h;intro j z hj he;have hi:j / 3<l.length:=by omega
 obtain⟨s,A,k,ca,B,m,cb,c0,c1,c2,-⟩:=h6 (j / 3) (l[j / 3]'hi) (List.getElem?_eq_getElem hi)
 rcases(show j=j / 3*3∨j=j / 3*3+1∨j=j / 3*3+2 by omega) with e|e|e
 ·rw [e,c0] at he;cases he
 ·rw [e,c1] at he;cases he
 ·rw [e,c2] at he;cases he
theorem Wd.keepC {W W':World} {v:Value} {n g m:Nat} (h:Wd W v n) (hg:NoU W g m) (hk:∀b j,(b≠g∨m≤j)→W'.cell? ⟨b,j,none⟩=W.cell? ⟨b,j,none⟩):Wd W' v n:=by
 obtain⟨A,cc,e,hc,hcl⟩:=h;refine⟨A,cc,e,hc,?_⟩
 rcases Nat.eq_zero_or_pos (dg n).length with h0|h0
 ·left;rw [List.length_eq_zero_iff.1 h0];rfl
 ·obtain⟨bl,o,hA,hce⟩:=hcl.at_ (by simpa using h0)
  right
  refine⟨bl,o,hA,fun j hj=>?_⟩;have hj':j<(dg n).length:=by simpa using hj
  have h1:=hce j hj;rw [hk bl (o+j) ?_]
  ·exact h1
  ·rcases Classical.em (bl≠g∨m≤o+j) with hn|hn
   ·exact hn
   ·exfalso
    have hb:bl=g:=Classical.byContradiction fun e=>hn (.inl e);have hm:o+j<m:=Nat.lt_of_not_le fun e=>hn (.inr e);rw [getD_map_u64 _ _ hj'] at h1;subst hb;exact hg _ _ hm h1
theorem Nm.keepC {W W':World} {v:Value} {q:Rat} {g m:Nat} (h:Nm W v q) (hg:NoU W g m) (hk:∀b j,(b≠g∨m≤j)→W'.cell? ⟨b,j,none⟩=W.cell? ⟨b,j,none⟩):Nm W' v q:=by
 obtain⟨vn,vd,e,h1,h2⟩:=h;exact⟨vn,vd,e,h1.keepC hg hk,h2.keepC hg hk⟩
end Go.Proofs.YtjamgccgoapbeaaGreatDoor
set_option linter.unusedVariables false
set_option maxRecDepth 100000
set_option maxHeartbeats 64000000
namespace Go.Proofs.YtjamgccgoapbeaaGreatDoor
open Go.RowKit
def PlN (B:Nat) (w:World) (v:Value) (l:List Rat):Prop:=(v=.slice none 0 0∧l=[])∨∃g,B≤g∧PlO w g v l
theorem PlN.pl {B:Nat} {w:World} {v:Value} {l:List Rat} (h:PlN B w v l):Pl w v l:=by
 rcases h with ⟨rfl,rfl⟩|⟨g,-,h⟩
 ·exact Pl.nil w
 ·exact h.pl
theorem info_num:(Tryz.prog.info? 35).map (fun i=>(i.zero,i.size,i.bytes))=some (some (.agg #[.bool false,.slice none 0 0,.slice none 0 0]),3,56):=by kernel_rfl
def cellsL (w:World) (b o n:Nat):List Value:=(List.range n).map fun j=>(w.cell? ⟨b,o+j,none⟩).getD undef
theorem cellsL_get {w:World} {b o n j:Nat} (hj:j<n):(cellsL w b o n)[j]?=some ((w.cell? ⟨b,o+j,none⟩).getD undef):=by
 unfold cellsL;rw [List.getElem?_map,List.getElem?_range hj]
 rfl
theorem cellsL_lt {w:World} {b o n j:Nat} {u:Value} (h:(cellsL w b o n)[j]?=some u):j<n:=by
 have h1:=(List.getElem?_eq_some_iff.1 h).1
 simpa [cellsL] using h1
theorem owns_plo {w:World} {B:Nat} {v:Value} {l:List Rat} {xs:List Value} (h:w.ownsRow B 35 3 v l.length xs) (hne:v≠.slice none 0 0) (hx:∀i q,l[i]?=some q→∃s A k ca C m cb,xs[i*3]?=some (.bool s)∧xs[i*3+1]?=some (.slice A k ca)∧xs[i*3+2]?=some (.slice C m cb)∧Nm w (.agg #[.bool s,.slice A k ca,.slice C m cb]) q):∃g,B≤g∧PlO w g v l:=by
 obtain⟨hlen,h2⟩:=h
 rcases h2 with ⟨h3,-⟩|⟨g,cap,cur,hv,hb,hg,hc,hm,hs,ht⟩
 ·exact absurd h3 hne
 ·refine⟨g,hb,cap,cur,hv,hg,hc,hm,hs,fun i q hq=>?_⟩
  obtain⟨s,A,k,ca,C,m,cb,x0,x1,x2,hn⟩:=hx i q hq
  have key:∀(j:Nat) (u:Value),xs[j]?=some u→w.cell? ⟨g,j,none⟩=some u:=fun j u hu=>by
   rw [cell_of_row w g j _ _ _ hg];rw [←ht,List.getElem?_take] at hu
   split at hu
   ·simpa using hu
   ·cases hu
  exact⟨s,A,k,ca,C,m,cb,key _ _ x0,key _ _ x1,key _ _ x2,hn⟩
theorem tri_cell {w:World} {b o n:Nat} {l:List Rat} (hn:l.length=n) (ht:∀i q,l[i]?=some q→Tri w b (o+i*3) q) {j:Nat} (hj:j<n*3):∃u,w.cell? ⟨b,o+j,none⟩=some u∧u.oneCell'=true:=by
 have hi:j / 3<l.length:=by omega
 obtain⟨s,A,k,ca,B,m,cb,c0,c1,c2,-⟩:=ht (j / 3) (l[j / 3]'hi) (List.getElem?_eq_getElem hi)
 rcases(show o+j=o+j / 3*3∨o+j=o+j / 3*3+1∨o+j=o+j / 3*3+2 by omega) with e|e|e
 ·exact⟨_,by rw [e];exact c0,rfl⟩
 ·exact⟨_,by rw [e];exact c1,rfl⟩
 ·exact⟨_,by rw [e];exact c2,rfl⟩
theorem clone_q (v:Value) (l:List Rat) (hl:l.length≤1000000) (w:World) (h:Pl w v l):Calls Tryz.prog 85 #[v] w fun e w'=>∃v',e=.returned v'∧PlN w.heap.size w' v' l∧Ext w w':=by
 obtain⟨A,cap,rfl,hc,hA⟩:=h
 rcases hA with ⟨rfl,rfl⟩|⟨b,o,rfl,ht⟩
 ·refine(Tryz.slices_Clone_nil _ _ w).mono ?_
  rintro e w' ⟨rfl,rfl⟩;exact⟨_,rfl,.inl ⟨rfl,rfl⟩,ae _⟩
 ·obtain⟨i0,hi,hz0,hz1,hz2⟩:=info_parts info_num
  refine(Tryz.slices_Clone i0 _ 3 56 hi hz0 hz1 hz2 rfl (by decide) Tryz.sizeOf35 b o l.length cap (cellsL w b o (l.length*3)) w (by simp [cellsL]) (by unfold maxLen;omega) (by omega) (fun j u hu=>?_) (fun u hu=>?_)).mono ?_
  ·have hj:=cellsL_lt hu
   obtain⟨u',h1,-⟩:=tri_cell rfl ht hj;rw [cellsL_get hj,h1] at hu;rw [h1,←Option.some.inj hu];rfl
  ·obtain⟨j,hj⟩:=List.mem_iff_getElem?.1 hu
   have hj':=cellsL_lt hj;obtain⟨u',h1,h2⟩:=tri_cell rfl ht hj';rw [cellsL_get hj',h1] at hj;rw [←Option.some.inj hj];exact h2
  ·rintro e w' ⟨v',rfl,ho,hne,hb⟩
   refine⟨_,rfl,.inr (owns_plo ho hne fun i q hq=>?_),hb⟩;obtain⟨s,A,k,ca,C,m,cb,c0,c1,c2,hn⟩:=ht i q hq;have hi':i<l.length:=(List.getElem?_eq_some_iff.1 hq).1
   have g:∀(r:Nat) (u:Value),r<3→w.cell? ⟨b,o+i*3+r,none⟩=some u→(cellsL w b o (l.length*3))[i*3+r]?=some u:=fun r u hr hu=>by
    rw [cellsL_get (by omega),←Nat.add_assoc,hu];rfl
   exact⟨s,A,k,ca,C,m,cb,g 0 _ (by decide) c0,g 1 _ (by decide) c1,g 2 _ (by decide) c2,hn.mono hb⟩
end Go.Proofs.YtjamgccgoapbeaaGreatDoor
set_option linter.unusedVariables false
set_option maxRecDepth 100000
set_option maxHeartbeats 64000000
namespace Go.Proofs.YtjamgccgoapbeaaGreatDoor
open Go.RowKit
theorem num_zero_iff {q:Rat} {c:Int} (h:q.num.sign=c):c=0↔q=0:=by
 rw [←h,Int.sign_eq_zero_iff_zero];exact Rat.num_eq_zero
theorem trim_take_zero {l:List Rat} {k:Nat} (hq:l[k]?=some 0):trimF (l.take (k+1))=trimF (l.take k):=by
 rw [List.take_add_one,hq];exact trim_snoc_zero _
theorem trim_take_ne {l:List Rat} {k:Nat} {q:Rat} (hq:l[k]?=some q) (h:q≠0):trimF (l.take (k+1))=l.take (k+1):=by
 rw [List.take_add_one,hq];exact trim_snoc h
theorem trim_le (p:List Rat):(trimF p).length≤p.length:=by
 induction p with
 | nil=>exact Nat.le_refl _
 | cons a p ih=>
  show (if trimF p=[] then (if a=0 then [] else [a]) else a :: trimF p).length≤_
  split
  ·split <;> simp
  ·simpa using ih
theorem trim_q (v:Value) (l:List Rat) (hl:l.length≤1000000) (w:World) (h:Pl w v l):Calls Tryz.prog 24 #[v] w fun e w'=>∃v',e=.returned v'∧PlN w.heap.size w' v' (trimF l)∧Ext w w':=by
 obtain⟨A,cap,rfl,hc,hA⟩:=id h;have HP:=ZZ h;have HL:=ZZ hl;have HC:=ZZ hc;have HA:=ZZ hA;clear h hl hA hc
 go_enter Tryz.func24,Tryz.ntmps24
 go_wp2_with fail
 go_loopg [0] l.length (fun k p wr=>Hid (k≤l.length)∧p=.slice A k cap∧Hid (trimF (l.take k)=trimF l)∧Hid (Ext w wr))
 case atStart=>exact⟨ZZ (Nat.le_refl _),rfl,ZZ (by rw [List.take_length]),ZZ (ae _)⟩
 case round=>
  obtain⟨HK,rfl,HT,HE⟩:=hrel;rename World=>WR
  rcases Nat.eq_zero_or_pos gk with hz|hz
  ·subst hz
   have q1:decide ((0:Int)<((0:Nat):Int))=false:=rfl;go_wp2_with fail;refine(clone_q _ (l.take 0) (by simp) _ ((HP.out.mono HE.out).take (Nat.zero_le _))).mono ?_;rintro e w' ⟨v',rfl,hn,kk⟩;have e0:l.take 0=trimF l:=by rw [←HT.out];rfl
   rw [e0] at hn;have HN:=ZZ hn;have HK2:=ZZ kk;clear hn kk e0;go_wp2_with fail;go_ret;refine⟨_,rfl,?_,am HE.out HK2.out⟩
   rcases HN.out with hn|⟨g,hg,hn⟩
   ·exact .inl hn
   ·exact .inr ⟨g,Nat.le_trans HE.out.size hg,hn⟩
  ·obtain⟨k,rfl⟩:∃k,gk=k+1:=⟨gk - 1,by omega⟩
   clear hz;have hk:=HK.out
   rcases HA.out with ⟨-,h5⟩|⟨b,o,rfl,ht⟩
   ·rw [h5] at hk;simp at hk
   obtain⟨q,hq⟩:∃q,l[k]?=some q:=⟨l[k]'(by omega),List.getElem?_eq_getElem _⟩;obtain⟨s,A1,k1,ca1,B1,l1,cb1,c0,c1,c2,hn⟩:=(ht k q hq).mono HE.out;obtain⟨c,hcs⟩:∃c,q.num.sign=c:=⟨_,rfl⟩;have HCS:=ZZ hcs;have HQ:=ZZ hq;have HN:=ZZ hn;have HT1:=ZZ ht;have q1:decide ((0:Int)<((k+1:Nat):Int))=true:=decide_eq_true (by omega);have q2:decide ((0:Int)<(k:Int)+1)=true:=decide_eq_true (by omega)
   have q3:IntKind.i64.wrap ((k:Int)+1 - 1)=(k:Int):=by
    have:=HL.out
    rw [show (k:Int)+1 - 1=k by omega];exact IntWalk.i64_in _ (by omega)
   have q3':IntKind.i64.wrap (k:Int)=(k:Int):=by
    have:=HL.out
    exact IntWalk.i64_in _ (by omega)
   have q4:(k:Int)<(k:Int)+1:=by omega
   have q5:(0:Int)≤(k:Int):=by omega
   have q6:(k:Int)≤(cap:Int):=by have:=HC.out;omega
   clear hcs hq hn ht hk;go_wp2_with fail;refine(sign_q' _ q _ c HCS.out HN.out).mono ?_;rintro e w5 ⟨rfl,k5⟩;have K5:=ZZ (am HE.out k5);clear c0 c1 c2 k5
   by_cases hc0:c=0
   ·subst hc0
    have z0:((0:Int) == 0)=true:=rfl;have HZ:=ZZ ((num_zero_iff HCS.out).1 rfl);go_wp2_with fail
    go_roundg k
    case measure=>omega
    case rel=>exact⟨ZZ (by have:=HK.out;omega),rfl,ZZ (by have h1:=HQ.out;rw [HZ.out] at h1;rw [←trim_take_zero h1];exact HT.out),ZZ K5.out⟩
   ·have z0:(c == 0)=false:=beq_eq_false_iff_ne.2 hc0
    have HZ:=ZZ (fun e:q=0=>hc0 ((num_zero_iff HCS.out).2 e));clear hc0;go_wp2_with fail;refine(clone_q _ (l.take (k+1)) (by have:=HL.out;simp;omega) _ ((HP.out.mono K5.out).take HK.out)).mono ?_;rintro e w' ⟨v',rfl,hn,kk⟩;rw [show l.take (k+1)=trimF l by rw [←HT.out];exact(trim_take_ne HQ.out HZ.out).symm] at hn;have HN2:=ZZ hn;have HK2:=ZZ kk;clear hn kk;go_wp2_with fail;go_ret;refine⟨_,rfl,?_,am K5.out HK2.out⟩
    rcases HN2.out with hn|⟨g,hg,hn⟩
    ·exact .inl hn
    ·exact .inr ⟨g,Nat.le_trans K5.out.size hg,hn⟩
theorem deg_q (v:Value) (l:List Rat) (hl:l.length≤1000000) (w:World) (h:Pl w v l):Calls Tryz.prog 26 #[v] w fun e w'=>e=.returned (.int .i64 (((trimF l).length:Int) - 1))∧Ext w w':=by
 have HP:=ZZ h;have HL:=ZZ hl;obtain⟨n,hn⟩:∃n,(trimF l).length=n:=⟨_,rfl⟩;rw [hn];have HN:=ZZ hn;have HT:=ZZ (show n≤l.length by rw [←hn];exact trim_le l);clear h hl hn
 go_enter Tryz.func26,Tryz.ntmps26
 go_wp2_with fail;refine(trim_q _ l HL.out _ HP.out).mono ?_
 rintro e w3 ⟨v3,rfl,h3,k3⟩;obtain⟨A,cap,e3,hc,-⟩:=h3.pl;rw [HN.out] at e3;subst e3;have K3:=ZZ k3
 have q3:IntKind.i64.wrap ((n:Int) - 1)=(n:Int) - 1:=by
  have:=HL.out
  have:=HT.out
  exact IntWalk.i64_in _ (by omega)
 clear h3 k3 hc;go_wp2_with fail;go_ret;exact⟨rfl,K3.out⟩
end Go.Proofs.YtjamgccgoapbeaaGreatDoor
set_option linter.unusedVariables false
set_option maxRecDepth 100000
set_option maxHeartbeats 64000000
namespace Go.Proofs.YtjamgccgoapbeaaGreatDoor
open Go.RowKit
theorem top_q (v:Value) (l:List Rat) (hl:l.length≤1000000) (n:Nat) (q:Rat) (hn:l.length=n+1) (hq:l[n]?=some q) (w:World) (h:Pl w v l):Calls Tryz.prog 102 #[v] w fun e w'=>∃v',e=.returned v'∧Nm w' v' q∧Ext w w':=by
 obtain⟨A,cap,rfl,hc,hA⟩:=h
 rcases hA with ⟨-,h5⟩|⟨b,o,rfl,ht⟩
 ·rw [h5] at hn;simp at hn
 rw [hn];obtain⟨s,A1,k1,ca1,B1,l1,cb1,d0,d1,d2,hx⟩:=ht n q hq;have HX:=ZZ hx;have e1:=ab w (.cells #[.bool false,.slice none 0 0,.slice none 0 0] 35);have c0:=ar e1 d0;have c1:=ar e1 d1;have c2:=ar e1 d2
 have q3:IntKind.i64.wrap ((n:Int)+1 - 1)=(n:Int):=by
  rw [show (n:Int)+1 - 1=n by omega];exact IntWalk.i64_in _ (by omega)
 have q3':IntKind.i64.wrap (n:Int)=(n:Int):=IntWalk.i64_in _ (by omega);have q4:(n:Int)<(n:Int)+1:=by omega
 have q5:(0:Int)≤(n:Int):=by omega
 clear hl hn hq hc ht hx d0 d1 d2 e1
 go_enter Tryz.func102,Tryz.ntmps102
 go_wp2_with fail;refine bodyPost_ret (v:=.agg #[.bool s,.slice A1 k1 ca1,.slice B1 l1 cb1]) (by simp [results,Tryz.f102];go_simp) rfl ?_
 exact⟨_,rfl,HX.out.mono (ab _ _),ab _ _⟩
theorem over_q (M:Nat) (hM:M≤1099511627776) (vx vy:Value) (x y:Rat) (w:World) (hx:Nm w vx x) (hy:Nm w vy y) (bx:Bq M x) (by_:Bq M y) (h0:y≠0):Calls Tryz.prog 101 #[vx,vy] w fun e w'=>∃v,e=.returned v∧Nm w' v (x / y)∧Ext w w':=by
 obtain⟨s1,A1,k1,ca1,B1,l1,cb1,rfl⟩:=hx.form2;obtain⟨s2,A2,k2,ca2,B2,l2,cb2,rfl⟩:=hy.form2;have HX:=ZZ hx;have HY:=ZZ hy;have BX:=ZZ bx;have BY:=ZZ by_;have H0:=ZZ h0;have HM:=ZZ hM;have e1:=ab w (.cells #[.bool s1,.slice A1 k1 ca1,.slice B1 l1 cb1] 35);have e2:=ab (w.alloc (.cells #[.bool s1,.slice A1 k1 ca1,.slice B1 l1 cb1] 35)) (.cells #[.bool s2,.slice A2 k2 ca2,.slice B2 l2 cb2] 35);have e3:=ab ((w.alloc (.cells #[.bool s1,.slice A1 k1 ca1,.slice B1 l1 cb1] 35)).alloc (.cells #[.bool s2,.slice A2 k2 ca2,.slice B2 l2 cb2] 35)) (.cells #[.bool false,.slice none 0 0,.slice none 0 0] 35);have hz:=heap_alloc_new ((w.alloc (.cells #[.bool s1,.slice A1 k1 ca1,.slice B1 l1 cb1] 35)).alloc (.cells #[.bool s2,.slice A2 k2 ca2,.slice B2 l2 cb2] 35)) (.cells #[.bool false,.slice none 0 0,.slice none 0 0] 35);have hz:=show (((w.alloc (.cells #[.bool s1,.slice A1 k1 ca1,.slice B1 l1 cb1] 35)).alloc (.cells #[.bool s2,.slice A2 k2 ca2,.slice B2 l2 cb2] 35)).alloc (.cells #[.bool false,.slice none 0 0,.slice none 0 0] 35)).heap[w.heap.size+1+1]?=some (.cells #[.bool false,.slice none 0 0,.slice none 0 0] 35 (0,0)) by simpa using hz
 have HZ:=ZZ hz;have EW:=ZZ (am e1 (am e2 e3));have LE:=ZZ (show w.heap.size≤w.heap.size+1+1 from by omega);clear hx hy bx by_ h0 hM e1 e2 e3 hz
 go_enter Tryz.func101,Tryz.ntmps101
 go_wp2_with fail;refine(div_q M HM.out _ _ x y _ (HX.out.mono EW.out) (HY.out.mono EW.out) BX.out BY.out H0.out).mono ?_
 rintro e w4 ⟨v4,rfl,h4,k4⟩;obtain⟨s4,A4,k4',ca4,B4,l4,cb4,rfl⟩:=h4.form2;have E4:=ZZ (am k4 (ab w4 (.cells #[.bool s4,.slice A4 k4' ca4,.slice B4 l4 cb4] 35)));have H4:=ZZ (h4.mono (ab w4 (.cells #[.bool s4,.slice A4 k4' ca4,.slice B4 l4 cb4] 35)));have hz4:=(E4.out.block _ (lt_of_block HZ.out)).trans HZ.out;have HZ4:=ZZ hz4;obtain⟨z0,z1,z2,zf0,zf1,zf2⟩:=aj hz4;clear h4 k4 hz4;go_wp2_with fail;refine bodyPost_ret (v:=.agg #[.bool s4,.slice A4 k4' ca4,.slice B4 l4 cb4]) (by simp [results,Tryz.f101];go_simp) rfl ?_;exact⟨_,rfl,H4.out.put3 HZ4.out,ap (am EW.out E4.out) LE.out _ _ _⟩
end Go.Proofs.YtjamgccgoapbeaaGreatDoor
