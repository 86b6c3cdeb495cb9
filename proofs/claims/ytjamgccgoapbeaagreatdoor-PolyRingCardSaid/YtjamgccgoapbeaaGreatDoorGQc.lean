/- Polynomials of the program: slices of numbers in memory, of others and of the call's own. Copies of slices of numbers. Trim and Deg of the program. Numbers: powers of ten. Printed by gen_nk.py. Numbers: logarithms, integers next to a number. Printed by gen_ni.py. Numbers: rounding to significant bits. Printed by gen_nj.py. Plain laws of decimal numerals. -/
import Derived.Test.YtjamgccgoapbeaaGreatDoorGNg
import Derived.Laws.AppendOwn
import Derived.Test.YtjamgccgoapbeaaGreatDoorGShelfB
import Derived.Test.YtjamgccgoapbeaaGreatDoorGQp
import Derived.Deep.LoopGhost
import Derived.Deep.DeepCutAuto
import Derived.Test.YtjamgccgoapbeaaGreatDoorGWj
import Derived.Lib.ItoaNum
set_option linter.unusedVariables false
set_option maxRecDepth 100000
set_option maxHeartbeats 64000000
namespace Go.Proofs.YtjamgccgoapbeaaGreatDoor
open Go.RowKit
def Tri (w:World) (b j:Nat) (q:Rat):Prop:=∃s A k ca B m cb,w.cell? ⟨b,j,none⟩=some (.bool s)∧w.cell? ⟨b,j+1,none⟩=some (.slice A k ca)∧w.cell? ⟨b,j+2,none⟩=some (.slice B m cb)∧Nm w (.agg #[.bool s,.slice A k ca,.slice B m cb]) q
theorem Tri.mono {w w':World} {b j:Nat} {q:Rat} (h:Tri w b j q) (k:Ext w w'):Tri w' b j q:=by
 obtain⟨s,A,m,ca,B,n,cb,h1,h2,h3,h4⟩:=h;exact⟨s,A,m,ca,B,n,cb,ap k h1,ap k h2,ap k h3,h4.mono k⟩
def Pl (w:World) (v:Value) (l:List Rat):Prop:=∃A cap,v=.slice A l.length cap∧l.length≤cap∧((A=none∧l=[])∨∃b o,A=some ⟨b,o,none⟩∧∀i q,l[i]?=some q→Tri w b (o+i*3) q)
theorem Pl.mono {w w':World} {v:Value} {l:List Rat} (h:Pl w v l) (k:Ext w w'):Pl w' v l:=by
 obtain⟨A,cap,h1,h2,h3⟩:=h;refine⟨A,cap,h1,h2,?_⟩
 rcases h3 with h3|⟨b,o,h4,h5⟩
 ·exact .inl h3
 ·exact .inr ⟨b,o,h4,fun i q hq=>(h5 i q hq).mono k⟩
theorem Pl.nil (w:World):Pl w (.slice none 0 0) []:=⟨none,0,rfl,Nat.le_refl _,.inl ⟨rfl,rfl⟩⟩
theorem Pl.take {w:World} {A:Option Addr} {n cap:Nat} {l:List Rat} (h:Pl w (.slice A n cap) l) {k:Nat} (hk:k≤l.length):Pl w (.slice A k cap) (l.take k):=by
 obtain⟨A',cap',e,h2,h3⟩:=h
 injection e with e1 e2 e3
 subst e1 e2 e3;have hl:(l.take k).length=k:=by simp [hk]
 refine⟨A,cap,by rw [hl],by rw [hl];omega,?_⟩
 rcases h3 with ⟨h4,h5⟩|⟨b,o,h4,h5⟩
 ·exact .inl ⟨h4,by rw [h5];simp⟩
 ·refine .inr ⟨b,o,h4,fun i q hq=>h5 i q ?_⟩
  rw [List.getElem?_take] at hq
  split at hq
  ·exact hq
  ·cases hq
def PlO (w:World) (g:Nat) (v:Value) (l:List Rat):Prop:=∃cap cur,v=.slice (some ⟨g,0,none⟩) l.length cap∧w.heap[g]?=some (.cells cur 35 (0,0))∧l.length≤cap∧cap≤maxLen∧cur.size=cap*3∧∀i q,l[i]?=some q→Tri w g (i*3) q
theorem PlO.pl {w:World} {g:Nat} {v:Value} {l:List Rat} (h:PlO w g v l):Pl w v l:=by
 obtain⟨cap,cur,h1,h2,h3,h4,h5,h6⟩:=h;exact⟨_,cap,h1,h3,.inr ⟨g,0,rfl,fun i q hq=>by rw [Nat.zero_add];exact h6 i q hq⟩⟩
def NoU (w:World) (g m:Nat):Prop:=∀(j:Nat) (z:Int),j<m→w.cell? ⟨g,j,none⟩≠some (.int .u64 z)
theorem PlO.noU {w:World} {g:Nat} {v:Value} {l:List Rat} (h:PlO w g v l):NoU w g (l.length*3):=by
 obtain⟨cap,cur,h1,h2,h3,h4,h5,h6⟩:=h;intro j z hj he;have hi:j / 3<l.length:=by omega
 obtain⟨s,A,k,ca,B,m,cb,c0,c1,c2,-⟩:=h6 (j / 3) (l[j / 3]'hi) (List.getElem?_eq_getElem hi)
 rcases(show j=j / 3*3∨j=j / 3*3+1∨j=j / 3*3+2 by omega) with e|e|e
 ·rw [e,c0] at he;cases he
 ·rw [e,c1] at he;cases he
 ·rw [e,c2] at he;cases he
theorem Wd.keepC {W W':World} {v:Value} {n g m:Nat} (h:Wd W v n) (hg:NoU W g m) (hk:∀b j,(b≠g∨m≤j)→W'.cell? ⟨b,j,none⟩=W.cell? ⟨b,j,none⟩):Wd W' v n:=by
 obtain⟨A,cc,e,hc,hcl⟩:=h;refine⟨A,cc,e,hc,?_⟩
 rcases Nat.eq_zero_or_pos (dg n).length with h0|h0
 ·left;rw [List.length_eq_zero_iff.1 h0];rfl
 ·obtain⟨bl,o,hA,hce⟩:=hcl.at_ (by simpa using h0)
  right
  refine⟨bl,o,hA,fun j hj=>?_⟩;have hj':j<(dg n).length:=by simpa using hj
  have h1:=hce j hj;rw [hk bl (o+j) ?_]
  ·exact h1
  ·rcases Classical.em (bl≠g∨m≤o+j) with hn|hn
   ·exact hn
   ·exfalso
    have hb:bl=g:=Classical.byContradiction fun e=>hn (.inl e);have hm:o+j<m:=Nat.lt_of_not_le fun e=>hn (.inr e);rw [getD_map_u64 _ _ hj'] at h1;subst hb;exact hg _ _ hm h1
theorem Nm.keepC {W W':World} {v:Value} {q:Rat} {g m:Nat} (h:Nm W v q) (hg:NoU W g m) (hk:∀b j,(b≠g∨m≤j)→W'.cell? ⟨b,j,none⟩=W.cell? ⟨b,j,none⟩):Nm W' v q:=by
 obtain⟨vn,vd,e,h1,h2⟩:=h;exact⟨vn,vd,e,h1.keepC hg hk,h2.keepC hg hk⟩
end Go.Proofs.YtjamgccgoapbeaaGreatDoor
set_option linter.unusedVariables false
set_option maxRecDepth 100000
set_option maxHeartbeats 64000000
namespace Go.Proofs.YtjamgccgoapbeaaGreatDoor
open Go.RowKit
def PlN (B:Nat) (w:World) (v:Value) (l:List Rat):Prop:=(v=.slice none 0 0∧l=[])∨∃g,B≤g∧PlO w g v l
theorem PlN.pl {B:Nat} {w:World} {v:Value} {l:List Rat} (h:PlN B w v l):Pl w v l:=by
 rcases h with ⟨rfl,rfl⟩|⟨g,-,h⟩
 ·exact Pl.nil w
 ·exact h.pl
theorem info_num:(Tryz.prog.info? 35).map (fun i=>(i.zero,i.size,i.bytes))=some (some (.agg #[.bool false,.slice none 0 0,.slice none 0 0]),3,56):=by kernel_rfl
def cellsL (w:World) (b o n:Nat):List Value:=(List.range n).map fun j=>(w.cell? ⟨b,o+j,none⟩).getD undef
theorem cellsL_get {w:World} {b o n j:Nat} (hj:j<n):(cellsL w b o n)[j]?=some ((w.cell? ⟨b,o+j,none⟩).getD undef):=by
 unfold cellsL;rw [List.getElem?_map,List.getElem?_range hj]
 rfl
theorem cellsL_lt {w:World} {b o n j:Nat} {u:Value} (h:(cellsL w b o n)[j]?=some u):j<n:=by
 have h1:=(List.getElem?_eq_some_iff.1 h).1
 simpa [cellsL] using h1
theorem owns_plo {w:World} {B:Nat} {v:Value} {l:List Rat} {xs:List Value} (h:w.ownsRow B 35 3 v l.length xs) (hne:v≠.slice none 0 0) (hx:∀i q,l[i]?=some q→∃s A k ca C m cb,xs[i*3]?=some (.bool s)∧xs[i*3+1]?=some (.slice A k ca)∧xs[i*3+2]?=some (.slice C m cb)∧Nm w (.agg #[.bool s,.slice A k ca,.slice C m cb]) q):∃g,B≤g∧PlO w g v l:=by
 obtain⟨hlen,h2⟩:=h
 rcases h2 with ⟨h3,-⟩|⟨g,cap,cur,hv,hb,hg,hc,hm,hs,ht⟩
 ·exact absurd h3 hne
 ·refine⟨g,hb,cap,cur,hv,hg,hc,hm,hs,fun i q hq=>?_⟩
  obtain⟨s,A,k,ca,C,m,cb,x0,x1,x2,hn⟩:=hx i q hq
  have key:∀(j:Nat) (u:Value),xs[j]?=some u→w.cell? ⟨g,j,none⟩=some u:=fun j u hu=>by
   rw [cell_of_row w g j _ _ _ hg];rw [←ht,List.getElem?_take] at hu
   split at hu
   ·simpa using hu
   ·cases hu
  exact⟨s,A,k,ca,C,m,cb,key _ _ x0,key _ _ x1,key _ _ x2,hn⟩
theorem tri_cell {w:World} {b o n:Nat} {l:List Rat} (hn:l.length=n) (ht:∀i q,l[i]?=some q→Tri w b (o+i*3) q) {j:Nat} (hj:j<n*3):∃u,w.cell? ⟨b,o+j,none⟩=some u∧u.oneCell'=true:=by
 have hi:j / 3<l.length:=by omega
 obtain⟨s,A,k,ca,B,m,cb,c0,c1,c2,-⟩:=ht (j / 3) (l[j / 3]'hi) (List.getElem?_eq_getElem hi)
 rcases(show o+j=o+j / 3*3∨o+j=o+j / 3*3+1∨o+j=o+j / 3*3+2 by omega) with e|e|e
 ·exact⟨_,by rw [e];exact c0,rfl⟩
 ·exact⟨_,by rw [e];exact c1,rfl⟩
 ·exact⟨_,by rw [e];exact c2,rfl⟩
theorem clone_q (v:Value) (l:List Rat) (hl:l.length≤1000000) (w:World) (h:Pl w v l):Calls Tryz.prog 85 #[v] w fun e w'=>∃v',e=.returned v'∧PlN w.heap.size w' v' l∧Ext w w':=by
 obtain⟨A,cap,rfl,hc,hA⟩:=h
 rcases hA with ⟨rfl,rfl⟩|⟨b,o,rfl,ht⟩
 ·refine(Tryz.slices_Clone_nil _ _ w).mono ?_
  rintro e w' ⟨rfl,rfl⟩;exact⟨_,rfl,.inl ⟨rfl,rfl⟩,ae _⟩
 ·obtain⟨i0,hi,hz0,hz1,hz2⟩:=info_parts info_num
  refine(Tryz.slices_Clone i0 _ 3 56 hi hz0 hz1 hz2 rfl (by decide) Tryz.sizeOf35 b o l.length cap (cellsL w b o (l.length*3)) w (by simp [cellsL]) (by unfold maxLen;omega) (by omega) (fun j u hu=>?_) (fun u hu=>?_)).mono ?_
  ·have hj:=cellsL_lt hu
   obtain⟨u',h1,-⟩:=tri_cell rfl ht hj;rw [cellsL_get hj,h1] at hu;rw [h1,←Option.some.inj hu];rfl
  ·obtain⟨j,hj⟩:=List.mem_iff_getElem?.1 hu
   have hj':=cellsL_lt hj;obtain⟨u',h1,h2⟩:=tri_cell rfl ht hj';rw [cellsL_get hj',h1] at hj;rw [←Option.some.inj hj];exact h2
  ·rintro e w' ⟨v',rfl,ho,hne,hb⟩
   refine⟨_,rfl,.inr (owns_plo ho hne fun i q hq=>?_),hb⟩;obtain⟨s,A,k,ca,C,m,cb,c0,c1,c2,hn⟩:=ht i q hq;have hi':i<l.length:=(List.getElem?_eq_some_iff.1 hq).1
   have g:∀(r:Nat) (u:Value),r<3→w.cell? ⟨b,o+i*3+r,none⟩=some u→(cellsL w b o (l.length*3))[i*3+r]?=some u:=fun r u hr hu=>by
    rw [cellsL_get (by omega),←Nat.add_assoc,hu];rfl
   exact⟨s,A,k,ca,C,m,cb,g 0 _ (by decide) c0,g 1 _ (by decide) c1,g 2 _ (by decide) c2,hn.mono hb⟩
end Go.Proofs.YtjamgccgoapbeaaGreatDoor
set_option linter.unusedVariables false
set_option maxRecDepth 100000
set_option maxHeartbeats 64000000
namespace Go.Proofs.YtjamgccgoapbeaaGreatDoor
open Go.RowKit
theorem num_zero_iff {q:Rat} {c:Int} (h:q.num.sign=c):c=0↔q=0:=by
 rw [←h,Int.sign_eq_zero_iff_zero];exact Rat.num_eq_zero
theorem trim_take_zero {l:List Rat} {k:Nat} (hq:l[k]?=some 0):trimF (l.take (k+1))=trimF (l.take k):=by
 rw [List.take_add_one,hq];exact trim_snoc_zero _
theorem trim_take_ne {l:List Rat} {k:Nat} {q:Rat} (hq:l[k]?=some q) (h:q≠0):trimF (l.take (k+1))=l.take (k+1):=by
 rw [List.take_add_one,hq];exact trim_snoc h
theorem trim_le (p:List Rat):(trimF p).length≤p.length:=by
 induction p with
 | nil=>exact Nat.le_refl _
 | cons a p ih=>
  show (if trimF p=[] then (if a=0 then [] else [a]) else a :: trimF p).length≤_
  split
  ·split <;> simp
  ·simpa using ih
theorem trim_q (v:Value) (l:List Rat) (hl:l.length≤1000000) (w:World) (h:Pl w v l):Calls Tryz.prog 24 #[v] w fun e w'=>∃v',e=.returned v'∧PlN w.heap.size w' v' (trimF l)∧Ext w w':=by
 obtain⟨A,cap,rfl,hc,hA⟩:=id h;have HP:=ZZ h;have HL:=ZZ hl;have HC:=ZZ hc;have HA:=ZZ hA;clear h hl hA hc
 go_enter Tryz.func24,Tryz.ntmps24
 go_wp2_with fail
 go_loopg [0] l.length (fun k p wr=>Hid (k≤l.length)∧p=.slice A k cap∧Hid (trimF (l.take k)=trimF l)∧Hid (Ext w wr))
 case atStart=>exact⟨ZZ (Nat.le_refl _),rfl,ZZ (by rw [List.take_length]),ZZ (ae _)⟩
 case round=>
  obtain⟨HK,rfl,HT,HE⟩:=hrel;rename World=>WR
  rcases Nat.eq_zero_or_pos gk with hz|hz
  ·subst hz
   have q1:decide ((0:Int)<((0:Nat):Int))=false:=rfl;go_wp2_with fail;refine(clone_q _ (l.take 0) (by simp) _ ((HP.out.mono HE.out).take (Nat.zero_le _))).mono ?_;rintro e w' ⟨v',rfl,hn,kk⟩;have e0:l.take 0=trimF l:=by rw [←HT.out];rfl
   rw [e0] at hn;have HN:=ZZ hn;have HK2:=ZZ kk;clear hn kk e0;go_wp2_with fail;go_ret;refine⟨_,rfl,?_,al HE.out HK2.out⟩
   rcases HN.out with hn|⟨g,hg,hn⟩
   ·exact .inl hn
   ·exact .inr ⟨g,Nat.le_trans HE.out.size hg,hn⟩
  ·obtain⟨k,rfl⟩:∃k,gk=k+1:=⟨gk - 1,by omega⟩
   clear hz;have hk:=HK.out
   rcases HA.out with ⟨-,h5⟩|⟨b,o,rfl,ht⟩
   ·rw [h5] at hk;simp at hk
   obtain⟨q,hq⟩:∃q,l[k]?=some q:=⟨l[k]'(by omega),List.getElem?_eq_getElem _⟩;obtain⟨s,A1,k1,ca1,B1,l1,cb1,c0,c1,c2,hn⟩:=(ht k q hq).mono HE.out;obtain⟨c,hcs⟩:∃c,q.num.sign=c:=⟨_,rfl⟩;have HCS:=ZZ hcs;have HQ:=ZZ hq;have HN:=ZZ hn;have HT1:=ZZ ht;have q1:decide ((0:Int)<((k+1:Nat):Int))=true:=decide_eq_true (by omega);have q2:decide ((0:Int)<(k:Int)+1)=true:=decide_eq_true (by omega)
   have q3:IntKind.i64.wrap ((k:Int)+1 - 1)=(k:Int):=by
    have:=HL.out
    rw [show (k:Int)+1 - 1=k by omega];exact IntWalk.i64_in _ (by omega)
   have q3':IntKind.i64.wrap (k:Int)=(k:Int):=by
    have:=HL.out
    exact IntWalk.i64_in _ (by omega)
   have q4:(k:Int)<(k:Int)+1:=by omega
   have q5:(0:Int)≤(k:Int):=by omega
   have q6:(k:Int)≤(cap:Int):=by have:=HC.out;omega
   clear hcs hq hn ht hk;go_wp2_with fail;refine(sign_q' _ q _ c HCS.out HN.out).mono ?_;rintro e w5 ⟨rfl,k5⟩;have K5:=ZZ (al HE.out k5);clear c0 c1 c2 k5
   by_cases hc0:c=0
   ·subst hc0
    have z0:((0:Int) == 0)=true:=rfl;have HZ:=ZZ ((num_zero_iff HCS.out).1 rfl);go_wp2_with fail
    go_roundg k
    case measure=>omega
    case rel=>exact⟨ZZ (by have:=HK.out;omega),rfl,ZZ (by have h1:=HQ.out;rw [HZ.out] at h1;rw [←trim_take_zero h1];exact HT.out),ZZ K5.out⟩
   ·have z0:(c == 0)=false:=beq_eq_false_iff_ne.2 hc0
    have HZ:=ZZ (fun e:q=0=>hc0 ((num_zero_iff HCS.out).2 e));clear hc0;go_wp2_with fail;refine(clone_q _ (l.take (k+1)) (by have:=HL.out;simp;omega) _ ((HP.out.mono K5.out).take HK.out)).mono ?_;rintro e w' ⟨v',rfl,hn,kk⟩;rw [show l.take (k+1)=trimF l by rw [←HT.out];exact(trim_take_ne HQ.out HZ.out).symm] at hn;have HN2:=ZZ hn;have HK2:=ZZ kk;clear hn kk;go_wp2_with fail;go_ret;refine⟨_,rfl,?_,al K5.out HK2.out⟩
    rcases HN2.out with hn|⟨g,hg,hn⟩
    ·exact .inl hn
    ·exact .inr ⟨g,Nat.le_trans K5.out.size hg,hn⟩
theorem deg_q (v:Value) (l:List Rat) (hl:l.length≤1000000) (w:World) (h:Pl w v l):Calls Tryz.prog 26 #[v] w fun e w'=>e=.returned (.int .i64 (((trimF l).length:Int) - 1))∧Ext w w':=by
 have HP:=ZZ h;have HL:=ZZ hl;obtain⟨n,hn⟩:∃n,(trimF l).length=n:=⟨_,rfl⟩;rw [hn];have HN:=ZZ hn;have HT:=ZZ (show n≤l.length by rw [←hn];exact trim_le l);clear h hl hn
 go_enter Tryz.func26,Tryz.ntmps26
 go_wp2_with fail;refine(trim_q _ l HL.out _ HP.out).mono ?_
 rintro e w3 ⟨v3,rfl,h3,k3⟩;obtain⟨A,cap,e3,hc,-⟩:=h3.pl;rw [HN.out] at e3;subst e3;have K3:=ZZ k3
 have q3:IntKind.i64.wrap ((n:Int) - 1)=(n:Int) - 1:=by
  have:=HL.out
  have:=HT.out
  exact IntWalk.i64_in _ (by omega)
 clear h3 k3 hc;go_wp2_with fail;go_ret;exact⟨rfl,K3.out⟩
end Go.Proofs.YtjamgccgoapbeaaGreatDoor
set_option linter.unusedVariables false
set_option maxRecDepth 100000
set_option maxHeartbeats 64000000
namespace Go.Proofs.YtjamgccgoapbeaaGreatDoor
open Go.RowKit
theorem ten_lt (c:Nat):10 ^ c<2 ^ (4*c+1):=by
 have h:10 ^ c≤16 ^ c:=Nat.pow_le_pow_left (by decide) c;rw [Nat.pow_succ,Nat.pow_mul,show (2:Nat) ^ 4=16 from rfl]
 have:=Nat.pow_pos (n:=c) (show 0<16 by decide)
 omega
end Go.Proofs.YtjamgccgoapbeaaGreatDoor
set_option linter.unusedVariables false
set_option maxRecDepth 100000
set_option maxHeartbeats 64000000
namespace Go.Proofs.YtjamgccgoapbeaaGreatDoor
open Go.RowKit
theorem bl_le {n M:Nat} (h:n<2 ^ M):bl n≤M:=by
 unfold bl
 split
 ·omega
 ·rename_i h0
  have:=(Nat.log2_lt h0).2 h
  omega
def logN (n d:Nat):Int:=
 if bl d≤bl n then (if n<d*2 ^ (bl n - bl d) then ((bl n - bl d:Nat):Int) - 1 else ((bl n - bl d:Nat):Int))
 else (if n*2 ^ (bl d - bl n)<d then -((bl d - bl n:Nat):Int) - 1 else -((bl d - bl n:Nat):Int))
def logQ (x:Rat):Int:=logN x.num.natAbs x.den
theorem logQ_bound {M:Nat} {x:Rat} (h:Bq M x):-(M:Int) - 1≤logQ x∧logQ x≤M:=by
 have h1:=bl_le h.1;have h2:=bl_le h.2;unfold logQ logN
 split <;> split <;> omega
def wholeN (n d:Nat) (away:Bool):Nat:=if away=true∧n % d≠0 then n / d+1 else n / d
def wholeQ (x:Rat) (away:Bool):Rat:=rat (decide (x.num<0)) (wholeN x.num.natAbs x.den away) 1
theorem wholeN_lt {n d B:Nat} {away:Bool} (h:n<2 ^ B):wholeN n d away<2 ^ (B+1):=by
 unfold wholeN;have h1:n / d≤n:=Nat.div_le_self _ _;rw [Nat.pow_succ]
 split <;> omega
theorem Bq.wh {B:Nat} {x:Rat} {away:Bool} (h:Bq B x):Bq (B+1) (wholeQ x away):=
 bq_rat (wholeN_lt h.1) (Nat.one_lt_two_pow (by omega)) (by decide)
end Go.Proofs.YtjamgccgoapbeaaGreatDoor
set_option linter.unusedVariables false
set_option maxRecDepth 100000
set_option maxHeartbeats 64000000
namespace Go.Proofs.YtjamgccgoapbeaaGreatDoor
open Go.RowKit
def stepQ (x:Rat) (bits:Int):Int:=logQ x - min (max bits 1) 2000+1
def aw (x:Rat) (bits:Int) (away:Bool):Rat:=if x=0 then 0 else shQ (wholeQ (shQ x (-(stepQ x bits))) away) (stepQ x bits)
theorem stepQ_bound {M:Nat} {x:Rat} (h:Bq M x) (bits:Int):(stepQ x bits).natAbs≤M+2001:=by
 have:=logQ_bound h
 unfold stepQ;omega
theorem Bq.round {M:Nat} {x:Rat} {bits:Int} {away:Bool} (h:Bq M x) (hM:0<M):Bq (3*M+4003) (aw x bits away):=by
 unfold aw
 split
 ·exact bq_zero _ (by omega)
 ·have hs:=stepQ_bound h bits
  have h1:Bq (M+(M+2001)) (shQ x (-(stepQ x bits))):=(Bq.sh h).mono (by rw [Int.natAbs_neg];omega);have h2:=(Bq.wh h1:Bq _ (wholeQ (shQ x (-(stepQ x bits))) away));exact(Bq.sh h2).mono (by omega)
end Go.Proofs.YtjamgccgoapbeaaGreatDoor
set_option linter.unusedVariables false
set_option maxRecDepth 100000
set_option maxHeartbeats 64000000
namespace Go.Proofs.YtjamgccgoapbeaaGreatDoor
open Go.RowKit Go.Lib
def natOf (l:List UInt8):Nat:=l.foldl (fun n c=>10*n+(c.toNat - 48)) 0
def isDig (c:UInt8):Bool:=decide (48≤c.toNat) && decide (c.toNat≤57)
theorem isDig_iff (c:UInt8):isDig c=true↔48≤c.toNat∧c.toNat≤57:=by
 unfold isDig;simp
theorem natOf_nil:natOf []=0:=rfl
theorem natOf_snoc (l:List UInt8) (c:UInt8):natOf (l ++ [c])=10*natOf l+(c.toNat - 48):=by
 simp [natOf,List.foldl_append]
theorem natOf_acc (l:List UInt8) (a:Nat):l.foldl (fun n c=>10*n+(c.toNat - 48)) a=a*10 ^ l.length+natOf l:=by
 induction l generalizing a with
 | nil=>simp [natOf]
 | cons c l ih=>
  unfold natOf
  simp only [List.foldl_cons,List.length_cons]
  rw [ih,ih (10*0+(c.toNat - 48)),Nat.pow_succ,Nat.mul_zero,Nat.zero_add,Nat.add_mul]
  have:10*a*10 ^ l.length=a*(10 ^ l.length*10):=by rw [Nat.mul_comm 10 a,Nat.mul_assoc,Nat.mul_comm 10]
  omega
theorem natOf_append (l m:List UInt8):natOf (l ++ m)=natOf l*10 ^ m.length+natOf m:=by
 unfold natOf;rw [List.foldl_append];exact natOf_acc m _
theorem natOf_cons (c:UInt8) (l:List UInt8):natOf (c :: l)=(c.toNat - 48)*10 ^ l.length+natOf l:=by
 have:=natOf_append [c] l
 rw [List.singleton_append] at this;rw [this];simp [natOf]
theorem natOf_lt (l:List UInt8) (h:∀c ∈ l,isDig c=true):natOf l<10 ^ l.length:=by
 induction l with
 | nil=>simp [natOf]
 | cons c l ih=>
  rw [natOf_cons,List.length_cons,Nat.pow_succ];have h1:=ih fun d hd=>h d (List.mem_cons_of_mem _ hd);have h2:=(isDig_iff c).1 (h c (List.mem_cons_self ..));have h3:(c.toNat - 48)*10 ^ l.length≤9*10 ^ l.length:=Nat.mul_le_mul_right _ (by omega);omega
theorem dchar (d:Nat) (h:d<10):(UInt8.ofNat (48+d)).toNat=48+d:=by
 rw [UInt8.toNat_ofNat'];exact Nat.mod_eq_of_lt (by omega)
theorem chard (c:UInt8) (h:isDig c=true):UInt8.ofNat (48+(c.toNat - 48))=c:=by
 have h2:=(isDig_iff c).1 h
 apply UInt8.toNat_inj.1
 rw [dchar _ (by omega)];omega
theorem natOf_dec (n:Nat):natOf (decDigits n)=n:=by
 induction n using Nat.strongRecOn with
 | _ n ih=>
  by_cases h:n<10
  ·rw [decDigits,dif_pos h];(simp [natOf];omega)
  ·rw [decDigits,dif_neg h,natOf_snoc,ih _ (by omega),dchar _ (by omega)];omega
theorem dec_ne_nil (n:Nat):decDigits n≠[]:=by
 rw [decDigits];split <;> simp
theorem dec_isDig (n:Nat):∀c ∈ decDigits n,isDig c=true:=by
 induction n using Nat.strongRecOn with
 | _ n ih=>
  intro c hc
  by_cases h:n<10
  ·rw [decDigits,dif_pos h] at hc
   simp only [List.mem_singleton] at hc
   rw [hc,isDig_iff,dchar _ h];omega
  ·rw [decDigits,dif_neg h] at hc
   rcases List.mem_append.1 hc with hc|hc
   ·exact ih _ (by omega) c hc
   ·simp only [List.mem_singleton] at hc
    rw [hc,isDig_iff,dchar _ (by omega)];omega
theorem natOf_pos (l:List UInt8) (h:∀c ∈ l,isDig c=true) (h0:l≠[]) (h1:l.head?≠some 48):0<natOf l:=by
 cases l with
 | nil=>exact absurd rfl h0
 | cons c l=>
  rw [natOf_cons];have h2:=(isDig_iff c).1 (h c (List.mem_cons_self ..))
  have h3:c.toNat≠48:=fun e=>h1 (by
   rw [List.head?_cons];congr 1;apply UInt8.toNat_inj.1;rw [e];rfl)
  have h4:0<10 ^ l.length:=Nat.pow_pos (by decide);have h5:1*10 ^ l.length≤(c.toNat - 48)*10 ^ l.length:=Nat.mul_le_mul_right _ (by omega);omega
theorem dec_natOf (l:List UInt8) (h:∀c ∈ l,isDig c=true) (h0:l≠[]) (h1:l.head?≠some 48∨l.length=1):decDigits (natOf l)=l:=by
 obtain⟨k,hk⟩:∃k,l.length=k:=⟨_,rfl⟩
 induction k using Nat.strongRecOn generalizing l with
 | _ k ih=>
  have hs:=List.dropLast_concat_getLast h0;obtain⟨m,hm⟩:∃m,l.dropLast=m:=⟨_,rfl⟩;obtain⟨c,hc⟩:∃c,l.getLast h0=c:=⟨_,rfl⟩;rw [hm,hc] at hs;subst hs;have hcd:=h c (by simp);have h2:=(isDig_iff c).1 hcd;rw [natOf_snoc]
  by_cases hmn:m=[]
  ·subst hmn
   rw [natOf_nil,decDigits,dif_pos (by omega)]
   simp only [Nat.mul_zero,Nat.zero_add,List.nil_append]
   rw [chard c hcd]
  ·have h3:(m ++ [c]).head?=m.head?:=by
    cases m with
    | nil=>exact absurd rfl hmn
    | cons a m=>rfl
   have hml:0<m.length:=List.length_pos_iff.2 hmn
   have h4:m.head?≠some 48:=by
    rcases h1 with h1|h1
    ·rw [←h3];exact h1
    ·simp at h1;exact absurd h1 hmn
   have hd:∀x ∈ m,isDig x=true:=fun x hx=>h x (by simp [hx]);have h5:=natOf_pos m hd hmn h4;rw [decDigits,dif_neg (by omega)];have e1:(10*natOf m+(c.toNat - 48)) / 10=natOf m:=by omega
   have e2:(10*natOf m+(c.toNat - 48)) % 10=c.toNat - 48:=by omega
   rw [e1,e2,chard c hcd];have hk':m.length<k:=by simp at hk;omega
   rw [ih m.length hk' m hd hmn (Or.inl h4) rfl]
theorem dec_head (n:Nat) (h:n≠0):(decDigits n).head?≠some 48:=by
 induction n using Nat.strongRecOn with
 | _ n ih=>
  by_cases hl:n<10
  ·rw [decDigits,dif_pos hl,List.head?_cons]
   intro e
   have:=congrArg UInt8.toNat (Option.some.inj e)
   rw [dchar _ hl] at this;have h9:(48:UInt8).toNat=48:=rfl;omega
  ·rw [decDigits,dif_neg hl]
   have h3:=dec_ne_nil (n / 10)
   cases hq:decDigits (n / 10) with
   | nil=>exact absurd hq h3
   | cons a m=>
    have:=ih (n / 10) (by omega) (by omega)
    rw [hq] at this;exact this
theorem dec_zero:decDigits 0=[48]:=by rw [decDigits,dif_pos (by decide)];rfl
def padTo (k r:Nat):List UInt8:=List.replicate (k - (decDigits r).length) 48 ++ decDigits r
theorem dec_length_le (k r:Nat) (hk:0<k) (hr:r<10 ^ k):(decDigits r).length≤k:=by
 rcases Nat.lt_or_ge k (decDigits r).length with h|h
 ·exfalso
  have hr0:r≠0:=by
   intro e;subst e;rw [dec_zero] at h;simp at h;omega
  have hd:=dec_isDig r;have hh:=dec_head r hr0;have hn:=natOf_dec r
  cases hq:decDigits r with
  | nil=>exact dec_ne_nil r hq
  | cons c m=>
   rw [hq] at h hd hh hn;rw [natOf_cons] at hn;have h2:=(isDig_iff c).1 (hd c (List.mem_cons_self ..))
   have h3:c.toNat≠48:=fun e=>hh (by
    rw [List.head?_cons];congr 1;apply UInt8.toNat_inj.1;rw [e];rfl)
   have h5:1*10 ^ m.length≤(c.toNat - 48)*10 ^ m.length:=Nat.mul_le_mul_right _ (by omega);have h6:10 ^ k≤10 ^ m.length:=Nat.pow_le_pow_right (by decide) (by simp at h;omega);omega
 ·exact h
theorem padTo_length (k r:Nat) (hk:0<k) (hr:r<10 ^ k):(padTo k r).length=k:=by
 have:=dec_length_le k r hk hr
 simp [padTo];omega
theorem natOf_zeros (k:Nat) (l:List UInt8):natOf (List.replicate k 48 ++ l)=natOf l:=by
 induction k with
 | zero=>simp
 | succ k ih=>rw [List.replicate_succ,List.cons_append,natOf_cons,ih];simp
theorem padTo_isDig (k r:Nat):∀c ∈ padTo k r,isDig c=true:=by
 intro c hc
 rcases List.mem_append.1 hc with h|h
 ·rw [List.mem_replicate] at h
  rw [h.2];rfl
 ·exact dec_isDig r c h
theorem dec_split (k q r:Nat) (hk:0<k) (hq:0<q) (hr:r<10 ^ k):decDigits (q*10 ^ k+r)=decDigits q ++ padTo k r:=by
 have h1:natOf (decDigits q ++ padTo k r)=q*10 ^ k+r:=by
  rw [natOf_append,natOf_dec,padTo_length k r hk hr];unfold padTo;rw [natOf_zeros,natOf_dec]
 rw [←h1];have hn:=dec_ne_nil q;refine dec_natOf _ ?_ (by simp [hn]) (Or.inl ?_)
 ·intro c hc
  rcases List.mem_append.1 hc with h|h
  ·exact dec_isDig q c h
  ·exact padTo_isDig k r c h
 ·cases hd:decDigits q with
  | nil=>exact absurd hd hn
  | cons a m=>
   have:=dec_head q (by omega)
   rw [hd] at this;exact this
def txt (q:Rat):List UInt8:=(if q.num<0 then [45] else []) ++ decDigits q.num.natAbs ++ (if q.den=1 then [] else 47 :: decDigits q.den)
end Go.Proofs.YtjamgccgoapbeaaGreatDoor
