/- Numbers: powers. -/
import Derived.Test.YtkoaakefgacokaaGreatDoorGTa
import Derived.Deep.LoopGhost
import Derived.Test.YtkoaakefgacokaaGreatDoorGNg
import Derived.Test.YtkoaakefgacokaaGreatDoorGYa
import Derived.Test.YtkoaakefgacokaaGreatDoorGTg
import Derived.Test.YtkoaakefgacokaaGreatDoorGTd
import Derived.Deep.DeepCutAuto
import Derived.Deep.MidRow
import Derived.Test.YtkoaakefgacokaaGreatDoorGYd
import Derived.Deep.RegionHeld3
import Derived.Deep.QuietTactic
import Derived.BigQuiet
import Derived.Test.YtkoaakefgacokaaGreatDoorGNe
import Derived.Test.YtkoaakefgacokaaGreatDoorGRat
import Derived.Test.YtkoaakefgacokaaGreatDoorGYi
import Derived.Test.YtkoaakefgacokaaGreatDoorGYh
set_option linter.unusedVariables false
set_option linter.unusedSimpArgs false
set_option maxRecDepth 100000
set_option maxHeartbeats 64000000
namespace Go.Proofs.YtkoaakefgacokaaGreatDoor
open Go.RowKit
def Sp (w:World) (v:Value) (lo hi:Rat):Prop:=∃x0 x1 x2 y0 y1 y2,v=.agg #[x0,x1,x2,y0,y1,y2]∧Nm w (.agg #[x0,x1,x2]) lo∧Nm w (.agg #[y0,y1,y2]) hi
theorem Sp.mono {w w':World} {v:Value} {lo hi:Rat} (h:Sp w v lo hi) (k:Ext w w'):Sp w' v lo hi:=by
 obtain⟨x0,x1,x2,y0,y1,y2,e,h1,h2⟩:=h;exact⟨x0,x1,x2,y0,y1,y2,e,h1.mono k,h2.mono k⟩
theorem Sp.form {w:World} {v:Value} {lo hi:Rat} (h:Sp w v lo hi):∃b1 A k ca B l cb b2 C m cc D n cd,v=.agg #[.bool b1,.slice A k ca,.slice B l cb,.bool b2,.slice C m cc,.slice D n cd]∧Nm w (.agg #[.bool b1,.slice A k ca,.slice B l cb]) lo∧Nm w (.agg #[.bool b2,.slice C m cc,.slice D n cd]) hi:=by
 obtain⟨x0,x1,x2,y0,y1,y2,rfl,h1,h2⟩:=h;obtain⟨b1,A,k,ca,B,l,cb,e1⟩:=h1.form2;obtain⟨b2,C,m,cc,D,n,cd,e2⟩:=h2.form2
 simp only [Value.agg.injEq,Array.mk.injEq,List.cons.injEq,and_true] at e1 e2
 obtain⟨rfl,rfl,rfl⟩:=e1;obtain⟨rfl,rfl,rfl⟩:=e2;exact⟨b1,A,k,ca,B,l,cb,b2,C,m,cc,D,n,cd,rfl,h1,h2⟩
theorem ai {W:World} {g:Nat} {a b c d e f:Value} {T:TypeId} (h:W.heap[g]?=some (.cells #[a,b,c,d,e,f] T (0,0))):W.cell? ⟨g,0,none⟩=some a∧W.cell? ⟨g,1,none⟩=some b∧W.cell? ⟨g,2,none⟩=some c∧W.cell? ⟨g,3,none⟩=some d∧W.cell? ⟨g,4,none⟩=some e∧W.cell? ⟨g,5,none⟩=some f∧W.frozen? ⟨g,0,none⟩=false∧W.frozen? ⟨g,1,none⟩=false∧W.frozen? ⟨g,2,none⟩=false∧W.frozen? ⟨g,3,none⟩=false∧W.frozen? ⟨g,4,none⟩=false∧W.frozen? ⟨g,5,none⟩=false:=by
 refine⟨?_,?_,?_,?_,?_,?_,?_,?_,?_,?_,?_,?_⟩ <;> simp [World.cell?,World.frozen?,h]
def put6 (W:World) (g:Nat) (a b c d e f:Value):World:=(((((W.setCell ⟨g,0,none⟩ a).setCell ⟨g,1,none⟩ b).setCell ⟨g,2,none⟩ c).setCell ⟨g,3,none⟩ d).setCell ⟨g,4,none⟩ e).setCell ⟨g,5,none⟩ f
theorem af {w W:World} {g:Nat} (h:Ext w W) (hg:w.heap.size≤g) (a b c d e f:Value):Ext w (put6 W g a b c d e f):=
 ((((((h.setCell hg _).setCell hg _).setCell hg _).setCell hg _).setCell hg _).setCell hg _)
theorem ah {W:World} {g k:Nat} {o:Obj} (h:W.heap[k]?=some o) (hne:k≠g) (a b c d e f:Value):(put6 W g a b c d e f).heap[k]?=some o:=by
 unfold put6;rw [Below.heap_setCell _ _ _ _ hne,Below.heap_setCell _ _ _ _ hne,Below.heap_setCell _ _ _ _ hne,Below.heap_setCell _ _ _ _ hne,Below.heap_setCell _ _ _ _ hne,Below.heap_setCell _ _ _ _ hne];exact h
theorem ag {W:World} {g:Nat} {a0 b0 c0 d0 e0 f0:Value} {T:TypeId} (h:W.heap[g]?=some (.cells #[a0,b0,c0,d0,e0,f0] T (0,0))) (a b c d e f:Value):(put6 W g a b c d e f).heap[g]?=some (.cells #[a,b,c,d,e,f] T (0,0)):=by
 unfold put6
 simp [World.setCell,Array.getElem?_modify,h]
theorem Wd.put6 {W:World} {v:Value} {q g:Nat} {b1 b2:Bool} {A B C D:Option Addr} {k ca l cb m cc n cd:Nat} {T:TypeId} (h:Wd W v q) (hg:W.heap[g]?=some (.cells #[.bool b1,.slice A k ca,.slice B l cb,.bool b2,.slice C m cc,.slice D n cd] T (0,0))) (a b c d e f:Value):Wd (put6 W g a b c d e f) v q:=by
 obtain⟨A',cx,e',hc,hcl⟩:=h;refine⟨A',cx,e',hc,?_⟩
 rcases Nat.eq_zero_or_pos (dg q).length with h0|h0
 ·left;rw [List.length_eq_zero_iff.1 h0];rfl
 ·obtain⟨bl,o,hA,hce⟩:=hcl.at_ (by simpa using h0)
  right
  refine⟨bl,o,hA,fun j hj=>?_⟩;have hj':j<(dg q).length:=by simpa using hj
  have h1:=hce j hj
  have hne:bl≠g:=by
   intro hb;subst hb;rw [getD_map_u64 _ _ hj'] at h1
   simp only [World.cell?,hg] at h1
   rcases Nat.lt_or_ge (o+j) 6 with h3|h3
   ·rcases(show o+j=0∨o+j=1∨o+j=2∨o+j=3∨o+j=4∨o+j=5 by omega) with e|e|e|e|e|e <;> rw [e] at h1 <;> simp at h1
   ·rw [Array.getElem?_eq_none (by simpa using h3)] at h1
    simp at h1
  rw [←h1]
  apply World.cell?_of_block
  unfold Go.Proofs.YtkoaakefgacokaaGreatDoor.put6;rw [Below.heap_setCell _ _ _ _ hne,Below.heap_setCell _ _ _ _ hne,Below.heap_setCell _ _ _ _ hne,Below.heap_setCell _ _ _ _ hne,Below.heap_setCell _ _ _ _ hne,Below.heap_setCell _ _ _ _ hne]
theorem Nm.put6 {W:World} {v:Value} {q:Rat} {g:Nat} {b1 b2:Bool} {A B C D:Option Addr} {k ca l cb m cc n cd:Nat} {T:TypeId} (h:Nm W v q) (hg:W.heap[g]?=some (.cells #[.bool b1,.slice A k ca,.slice B l cb,.bool b2,.slice C m cc,.slice D n cd] T (0,0))) (a b c d e f:Value):Nm (put6 W g a b c d e f) v q:=by
 obtain⟨vn,vd,e',h1,h2⟩:=h;exact⟨vn,vd,e',h1.put6 hg ..,h2.put6 hg ..⟩
def pfxs:List (List UInt8 × Int):=[([102],-15),([112],-12),([110],-9),([117],-6),([109],-3),([],0),([107],3),([77],6),([71],9),([84],12)]
def Pfx (w:World):Prop:=∀i,i<20→w.cell? ⟨0,i,none⟩=((pfxs.map fun p=>[Value.string ⟨p.1.toArray⟩,.int .i64 p.2]).flatten)[i]?
theorem Pfx.mono {w w':World} (h:Pfx w) (k:Ext w w'):Pfx w':=fun i hi=>by
 have h1:=h i hi;rw [←h1]
 have hl:i<((pfxs.map fun p=>[Value.string ⟨p.1.toArray⟩,.int .i64 p.2]).flatten).length:=by
  have:((pfxs.map fun p=>[Value.string ⟨p.1.toArray⟩,.int .i64 p.2]).flatten).length=20:=rfl
  omega
 rw [List.getElem?_eq_getElem hl] at h1;exact(ao k h1).trans h1.symm
theorem Pfx.cells {w:World} (h:Pfx w):w.cell? ⟨0,0,none⟩=some (.string ⟨#[102]⟩)∧w.cell? ⟨0,1,none⟩=some (.int .i64 (-15))∧w.cell? ⟨0,2,none⟩=some (.string ⟨#[112]⟩)∧w.cell? ⟨0,3,none⟩=some (.int .i64 (-12))∧w.cell? ⟨0,4,none⟩=some (.string ⟨#[110]⟩)∧w.cell? ⟨0,5,none⟩=some (.int .i64 (-9))∧w.cell? ⟨0,6,none⟩=some (.string ⟨#[117]⟩)∧w.cell? ⟨0,7,none⟩=some (.int .i64 (-6))∧w.cell? ⟨0,8,none⟩=some (.string ⟨#[109]⟩)∧w.cell? ⟨0,9,none⟩=some (.int .i64 (-3))∧w.cell? ⟨0,10,none⟩=some (.string ⟨#[]⟩)∧w.cell? ⟨0,11,none⟩=some (.int .i64 0)∧w.cell? ⟨0,12,none⟩=some (.string ⟨#[107]⟩)∧w.cell? ⟨0,13,none⟩=some (.int .i64 3)∧w.cell? ⟨0,14,none⟩=some (.string ⟨#[77]⟩)∧w.cell? ⟨0,15,none⟩=some (.int .i64 6)∧w.cell? ⟨0,16,none⟩=some (.string ⟨#[71]⟩)∧w.cell? ⟨0,17,none⟩=some (.int .i64 9)∧w.cell? ⟨0,18,none⟩=some (.string ⟨#[84]⟩)∧w.cell? ⟨0,19,none⟩=some (.int .i64 12):=
 ⟨h 0 (by omega),h 1 (by omega),h 2 (by omega),h 3 (by omega),h 4 (by omega),h 5 (by omega),h 6 (by omega),h 7 (by omega),h 8 (by omega),h 9 (by omega),h 10 (by omega),h 11 (by omega),h 12 (by omega),h 13 (by omega),h 14 (by omega),h 15 (by omega),h 16 (by omega),h 17 (by omega),h 18 (by omega),h 19 (by omega)⟩
theorem Nm.len {w:World} {b:Bool} {A B:Option Addr} {k c l d:Nat} {q:Rat} (h:Nm w (.agg #[.bool b,.slice A k c,.slice B l d]) q):(l=0↔q.den=1)∧Wd w (.slice A k c) q.num.natAbs:=by
 obtain⟨A',k',c',B',l',d',e,h1,h2,-,h4⟩:=h.form
 simp only [Value.agg.injEq,Array.mk.injEq,List.cons.injEq,Value.bool.injEq,Value.slice.injEq,and_true] at e
 obtain⟨-,⟨rfl,rfl,rfl⟩,⟨rfl,rfl,rfl⟩⟩:=e;exact⟨h4,h1⟩
end Go.Proofs.YtkoaakefgacokaaGreatDoor
namespace Go.Proofs.YtkoaakefgacokaaGreatDoor
open Go.RowKit
theorem Sp.put6 {W:World} {v:Value} {lo hi:Rat} {g:Nat} {b1 b2:Bool} {A B C D:Option Addr} {k ca l cb m cc n cd:Nat} {T:TypeId} (h:Sp W v lo hi) (hg:W.heap[g]?=some (.cells #[.bool b1,.slice A k ca,.slice B l cb,.bool b2,.slice C m cc,.slice D n cd] T (0,0))) (a b c d e f:Value):Sp (put6 W g a b c d e f) v lo hi:=by
 obtain⟨x0,x1,x2,y0,y1,y2,e',h1,h2⟩:=h;exact⟨x0,x1,x2,y0,y1,y2,e',h1.put6 hg ..,h2.put6 hg ..⟩
end Go.Proofs.YtkoaakefgacokaaGreatDoor
namespace Go.Proofs.YtkoaakefgacokaaGreatDoor
open Go.RowKit
end Go.Proofs.YtkoaakefgacokaaGreatDoor
namespace Go.Proofs.YtkoaakefgacokaaGreatDoor
open Go.RowKit
theorem cmp_q_e (M:Nat) (hM:M≤1099511627776) (vx vy:Value) (x y:Rat) (c:Int) (hc:cmpQ x y=c) (w:World) (hx:Nm w vx x) (hy:Nm w vy y) (bx:Bq M x) (by_:Bq M y):Calls Tryz.prog 33 #[vx,vy] w fun e w'=>e=.returned (.int .i64 c)∧Ext w w':=by
 subst hc;exact cmp_q M hM vx vy x y w hx hy bx by_
end Go.Proofs.YtkoaakefgacokaaGreatDoor
namespace Go.Proofs.YtkoaakefgacokaaGreatDoor
open Go Go.RowKit Go.Shelf
attribute [local go_sem] Oper.semAt_some
theorem put6_oth {W:World} {g k:Nat} (a b c d e f:Value) (h:k≠g):(put6 W g a b c d e f).heap[k]?=W.heap[k]?:=by
 unfold put6;rw [Below.heap_setCell _ _ _ _ h,Below.heap_setCell _ _ _ _ h,Below.heap_setCell _ _ _ _ h,Below.heap_setCell _ _ _ _ h,Below.heap_setCell _ _ _ _ h,Below.heap_setCell _ _ _ _ h]
theorem Sp.cb {W W':World} {v:Value} {lo hi:Rat} (h:Sp W v lo hi) (k:Cb W W'):Sp W' v lo hi:=by
 obtain⟨x0,x1,x2,y0,y1,y2,e,h1,h2⟩:=h;exact⟨x0,x1,x2,y0,y1,y2,e,h1.cb k,h2.cb k⟩
end Go.Proofs.YtkoaakefgacokaaGreatDoor
namespace Go.Proofs.YtkoaakefgacokaaGreatDoor
open Go.RowKit
def pw2 (n:Nat):Rat:=(((2 ^ n:Nat):Int):Rat)
theorem pw2_succ (n:Nat):pw2 n+pw2 n=pw2 (n+1):=by
 unfold pw2;rw [Nat.pow_succ,show (((2 ^ n*2:Nat):Int))=((2 ^ n:Nat):Int)+((2 ^ n:Nat):Int) by omega,Rat.intCast_add]
theorem pw2_ne (n:Nat):pw2 n≠0:=by
 unfold pw2;intro h;have h1:(((2 ^ n:Nat):Int))=0:=by exact_mod_cast h
 have h2:=Nat.two_pow_pos n;omega
theorem bq_pw2 (n:Nat):Bq (n+1) (pw2 n):=by
 unfold pw2;refine⟨?_,?_⟩
 ·rw [Rat.num_intCast,Int.natAbs_natCast]
  exact Nat.pow_lt_pow_right (by decide) (Nat.lt_succ_self n)
 ·rw [Rat.den_intCast]
  exact Nat.one_lt_two_pow (Nat.succ_ne_zero n)
def powF (k:Int):Rat:=if k<0 then 1 / pw2 k.natAbs else pw2 k.natAbs
theorem bq_powF (k:Int):Bq (k.natAbs+1) (powF k):=by
 unfold powF
 split
 ·exact bq_inv2 (bq_pw2 _) (pw2_ne _)
 ·exact bq_pw2 _
theorem power_p (k:Int) (hk:k.natAbs≤100000) (w:World):Calls Tryz.prog 43 #[.int .i64 k] w fun e w'=>∃v',e=.returned v'∧Nm w' v' (powF k)∧Ext w w':=by
 obtain⟨n,hn⟩:∃n,k.natAbs=n:=⟨_,rfl⟩;have q1:IntKind.i64.wrap (-k) = -k:=IntWalk.i64_in _ (by omega);have q2:max k (-k)=(n:Int):=by omega
 have HKN:=ZZ (show n≤100000 by omega);have HN:=ZZ hn;have BONE:=ZZ (show Bq 64 (1:Rat) from bq_int 1 (by decide) (by decide));clear hk hn
 go_enter Tryz.func43,Tryz.ntmps43
 go_wp2_with fail;refine(int_q 1 (by decide) (by decide) _).mono ?_
 rintro e w3 ⟨v3,rfl,h3,kk3⟩;obtain⟨s3,A3,k3,ca3,B3,l3,cb3,rfl⟩:=h3.form2;have r1:=(kk3.block _ (lt_of_block (heap_alloc_new w (.cells #[.bool false,.slice none 0 0,.slice none 0 0] 38)))).trans (heap_alloc_new w (.cells #[.bool false,.slice none 0 0,.slice none 0 0] 38));have x4:=ab w3 (.cells #[.bool s3,.slice A3 k3 ca3,.slice B3 l3 cb3] 38);have R1:=ZZ ((x4.block _ (lt_of_block r1)).trans r1);have R2:=ZZ (heap_alloc_new w3 (.cells #[.bool s3,.slice A3 k3 ca3,.slice B3 l3 cb3] 38));have H3:=ZZ ((show Nm w3 (.agg #[.bool s3,.slice A3 k3 ca3,.slice B3 l3 cb3]) 1 from h3).mono x4);have E4:=ZZ (al (ab w (.cells #[.bool false,.slice none 0 0,.slice none 0 0] 38)) (al kk3 x4));have HS:=ZZ (show w.heap.size<w3.heap.size from by have h1:=lt_of_block r1;omega);clear h3 kk3 r1 x4
 go_upto_region 2 with (fail)
 generalize w3.alloc (.cells #[.bool s3,.slice A3 k3 ca3,.slice B3 l3 cb3] _)=W4 at *;obtain⟨gr,hgr⟩:∃g,w.heap.size=g:=⟨_,rfl⟩;obtain⟨go,hgo⟩:∃g,w3.heap.size=g:=⟨_,rfl⟩;rw [hgr] at R1;rw [hgo] at R2;have HGD:=ZZ (show w.heap.size≤gr∧w.heap.size≤go∧gr≠go from ⟨by omega,by have:=HS.out;omega,by have:=HS.out;omega⟩);rw [hgo,hgr];clear hgr hgo HS;go_wp2_with fail
 go_loopg [9] n (fun m i wr=>∃j,Hid (j+m=n)∧i=.int .i64 (j:Int)∧Hid (∃(s2:Bool) (A2:Option Addr) (k2 ca2:Nat) (B2:Option Addr) (l2 cb2:Nat),wr.heap[go]?=some (.cells #[.bool s2,.slice A2 k2 ca2,.slice B2 l2 cb2] 38 (0,0))∧Nm wr (.agg #[.bool s2,.slice A2 k2 ca2,.slice B2 l2 cb2]) (pw2 j))∧Hid (wr.heap[gr]?=some (.cells #[.bool false,.slice none 0 0,.slice none 0 0] 38 (0,0)))∧Hid (Ext w wr))
 case atStart=>exact⟨0,ZZ (Nat.zero_add _),rfl,ZZ ⟨_,_,_,_,_,_,_,R2.out,H3.out⟩,R1,E4⟩
 case round=>
  obtain⟨j,HJ,rfl,HMO,HRG,HE⟩:=hrel;rename World=>WR;obtain⟨s2,A2,k2,ca2,B2,l2,cb2,hm2,hn2⟩:=HMO.out;have HM2:=ZZ hm2;have NM0:=ZZ hn2;obtain⟨p0,p1,p2,pf0,pf1,pf2⟩:=aj hm2;clear hm2 hn2 HMO
  rcases Nat.eq_zero_or_pos gk with hz|hz
  ·subst hz
   obtain rfl:j=n:=HJ.out;obtain⟨n,hjn⟩:∃n,n=j:=⟨j,rfl⟩;subst hjn;have q3:decide ((n:Int)<(n:Int))=false:=decide_eq_false (Int.lt_irrefl _)
   by_cases hk:k<0
   ·have q4:decide (k<0)=true:=decide_eq_true hk
    have HPF:=ZZ (show powF k=1 / pw2 n by unfold powF;rw [if_pos hk,HN.out]);clear hk
    go_upto_region 7 with (fail)
    have HRO:=ZZ (show ∀W,Ext WR W→W.heap[go]?=some (.cells #[.bool s2,.slice A2 k2 ca2,.slice B2 l2 cb2] 38 (0,0)) from fun W k=>(k.block _ (lt_of_block HM2.out)).trans HM2.out)
    have HC7:=ZZ (show ∀W,Ext WR W→W.cell? ⟨go,0,none⟩=some (.bool s2)∧W.cell? ⟨go,1,none⟩=some (.slice A2 k2 ca2)∧W.cell? ⟨go,2,none⟩=some (.slice B2 l2 cb2) from fun W k=>by
     obtain⟨y0,y1,y2,-⟩:=aj (HRO.out W k);exact⟨y0,y1,y2⟩)
    have HRR:=ZZ (show ∀W,Ext WR W→W.heap[gr]?=some (.cells #[.bool false,.slice none 0 0,.slice none 0 0] 38 (0,0)) from fun W k=>(k.block _ (lt_of_block HRG.out)).trans HRG.out);clear p0 p1 p2 pf0 pf1 pf2;have hun:undef=.tuple #[]:=rfl;refine wp_region_noPanic ?_;refine region_L (S:=fun W=>W.cell? ⟨go,0,none⟩=some (.bool s2)∧W.cell? ⟨go,1,none⟩=some (.slice A2 k2 ca2)∧W.cell? ⟨go,2,none⟩=some (.slice B2 l2 cb2)) 3 (by kernel_rfl) (HC7.out _ (ac _)) (fun hHeld=>?_);refine take_b 1 18 ?_;refine call_L (i:=0) 17 rfl rfl (by kernel_rfl) (fun K hK=>?_)
    go_simp
    go_at_call 15
    refine(int_q 1 (by decide) (by decide) _).mono ?_;rintro e w5 ⟨v5,rfl,h5,kk5⟩;obtain⟨s5,A5,k5,ca5,B5,l5,cb5,rfl⟩:=h5.form2;have H5:=ZZ (show Nm w5 (.agg #[.bool s5,.slice A5 k5 ca5,.slice B5 l5 cb5]) 1 from h5);have hx1:=ZZ (show Ext WR w5 from al (ac _) kk5);clear h5 kk5
    try go_wp2_with fail
    refine hK.out _ _ (HC7.out _ hx1.out) (fun hHeld=>?_);clear hK K
    try simp only [Act.put,lyA,lyB,lyC]
    refine call_L (i:=2) 19 rfl rfl (by kernel_rfl) (fun K hK=>?_)
    go_simp
    go_at_call 84
    refine(over_q (n+64) (by have:=HKN.out;omega) _ _ 1 (pw2 n) _ H5.out (NM0.out.mono hx1.out) (BONE.out.mono (by omega)) ((bq_pw2 n).mono (by omega)) (pw2_ne n)).mono ?_;rintro e w6 ⟨v6,rfl,h6,kk6⟩;obtain⟨s6,A6,k6,ca6,B6,l6,cb6,rfl⟩:=h6.form2;have H6:=ZZ h6;have hx2:=ZZ (al hx1.out kk6);clear h6 kk6
    try go_wp2_with fail
    refine hK.out _ _ (HC7.out _ hx2.out) (fun hHeld=>?_);clear hK K
    try simp only [Act.put,lyA,lyB,lyC]
    refine last_L rfl (by kernel_rfl) (by kernel_rfl) (fun K hK=>?_);obtain⟨zz0,zz1,zz2,zf0,zf1,zf2⟩:=aj (HRO.out w6 hx2.out)
    go_simp
    refine hK.out _ _ ?_;clear hK K
    try simp only [Act.put,lyA,lyB,lyC]
    refine NoPanic.normal ?_;have r8:=put3b_row (HRO.out w6 hx2.out) (.bool s6) (.slice A6 k6 ca6) (.slice B6 l6 cb6);have n8:=nm_put3b H6.out (HRO.out w6 hx2.out) (.bool s6) (.slice A6 k6 ca6) (.slice B6 l6 cb6);have rr8:(put3at w6 go 0 (.bool s6) (.slice A6 k6 ca6) (.slice B6 l6 cb6)).heap[gr]?=some (.cells #[.bool false,.slice none 0 0,.slice none 0 0] 38 (0,0)):=(put3b_other _ _ _ HGD.out.2.2).trans (HRR.out w6 hx2.out);have e8:Ext w (put3at w6 go 0 (.bool s6) (.slice A6 k6 ca6) (.slice B6 l6 cb6)):=(((al HE.out hx2.out).setCell HGD.out.2.1 _).setCell HGD.out.2.1 _).setCell HGD.out.2.1 _;clear zz0 zz1 zz2 zf0 zf1 zf2;generalize hW8:(World.setCell (World.setCell (World.setCell w6 ⟨go,0,none⟩ (.bool s6)) ⟨go,1,none⟩ (.slice A6 k6 ca6)) ⟨go,2,none⟩ (.slice B6 l6 cb6))=W8;have hW8':put3at w6 go 0 (.bool s6) (.slice A6 k6 ca6) (.slice B6 l6 cb6)=W8:=hW8;rw [hW8'] at r8 n8 rr8 e8;obtain⟨t0,t1,t2,tf0,tf1,tf2⟩:=aj r8;obtain⟨u0,u1,u2,uf0,uf1,uf2⟩:=aj rr8;have RR8:=ZZ rr8;have N8:=ZZ n8;have E8:=ZZ e8;clear r8 n8 rr8 e8 hW8 hW8'
    go_upto_region 8 with (fail)
    have hr9:=put3b_row RR8.out (.bool s6) (.slice A6 k6 ca6) (.slice B6 l6 cb6);have hn9:=nm_put3b N8.out RR8.out (.bool s6) (.slice A6 k6 ca6) (.slice B6 l6 cb6);have he9:Ext w (put3at W8 gr 0 (.bool s6) (.slice A6 k6 ca6) (.slice B6 l6 cb6)):=((E8.out.setCell HGD.out.1 _).setCell HGD.out.1 _).setCell HGD.out.1 _;have HR9:=ZZ hr9;have HN9:=ZZ hn9;have HE9:=ZZ he9;clear hr9 hn9 he9;go_wp2_with fail;have hr9:=HR9.out;obtain⟨y0,y1,y2,-⟩:=aj hr9;clear hr9;refine bodyPost_ret (v:=.agg #[.bool s6,.slice A6 k6 ca6,.slice B6 l6 cb6]) (by simp [results,Tryz.f43];go_simp) rfl ?_;exact⟨_,rfl,by rw [HPF.out];exact HN9.out,HE9.out⟩
   ·have q4:decide (k<0)=false:=decide_eq_false hk
    have HPF:=ZZ (show powF k=pw2 n by unfold powF;rw [if_neg hk,HN.out]);obtain⟨u0,u1,u2,uf0,uf1,uf2⟩:=aj HRG.out;clear hk
    go_upto_region 8 with (fail)
    have HR9:=ZZ (put3b_row HRG.out (.bool s2) (.slice A2 k2 ca2) (.slice B2 l2 cb2));have HN9:=ZZ (nm_put3b NM0.out HRG.out (.bool s2) (.slice A2 k2 ca2) (.slice B2 l2 cb2));have HE9:=ZZ (show Ext w (put3at WR gr 0 (.bool s2) (.slice A2 k2 ca2) (.slice B2 l2 cb2)) from ((HE.out.setCell HGD.out.1 _).setCell HGD.out.1 _).setCell HGD.out.1 _);go_wp2_with fail;have hr9:=HR9.out;obtain⟨y0,y1,y2,-⟩:=aj hr9;clear hr9;refine bodyPost_ret (v:=.agg #[.bool s2,.slice A2 k2 ca2,.slice B2 l2 cb2]) (by simp [results,Tryz.f43];go_simp) rfl ?_;exact⟨_,rfl,by rw [HPF.out];exact HN9.out,HE9.out⟩
  ·have hjn:j<n:=by have:=HJ.out;omega
   have q3:decide ((j:Int)<(n:Int))=true:=decide_eq_true (by omega);have q3':decide (j<n)=true:=decide_eq_true hjn;have HZ:=ZZ hz;have HJN:=ZZ hjn;clear hz hjn;go_wp2_with fail;refine(add_q (n+1) (by have:=HKN.out;omega) _ _ (pw2 j) (pw2 j) _ NM0.out NM0.out ((bq_pw2 j).mono (by have:=HJN.out;omega)) ((bq_pw2 j).mono (by have:=HJN.out;omega))).mono ?_;rintro e w6 ⟨v6,rfl,h6,kk6⟩;obtain⟨s6,A6,k6,ca6,B6,l6,cb6,rfl⟩:=h6.form2;rw [pw2_succ] at h6;have H6:=ZZ h6;have K6:=ZZ kk6;have HR6:=ZZ ((kk6.block _ (lt_of_block HM2.out)).trans HM2.out);obtain⟨t0,t1,t2,tf0,tf1,tf2⟩:=aj HR6.out;clear h6 kk6 p0 p1 p2 pf0 pf1 pf2;go_wp2_with fail;have HM9:=ZZ (show ∃(s2:Bool) (A2:Option Addr) (k2 ca2:Nat) (B2:Option Addr) (l2 cb2:Nat),(put3at w6 go 0 (.bool s6) (.slice A6 k6 ca6) (.slice B6 l6 cb6)).heap[go]?=some (.cells #[.bool s2,.slice A2 k2 ca2,.slice B2 l2 cb2] 38 (0,0))∧Nm (put3at w6 go 0 (.bool s6) (.slice A6 k6 ca6) (.slice B6 l6 cb6)) (.agg #[.bool s2,.slice A2 k2 ca2,.slice B2 l2 cb2]) (pw2 (j+1)) from ⟨_,_,_,_,_,_,_,put3b_row HR6.out _ _ _,nm_put3b H6.out HR6.out _ _ _⟩);have HR9:=ZZ (show (put3at w6 go 0 (.bool s6) (.slice A6 k6 ca6) (.slice B6 l6 cb6)).heap[gr]?=some (.cells #[.bool false,.slice none 0 0,.slice none 0 0] 38 (0,0)) from (put3b_other _ _ _ HGD.out.2.2).trans ((K6.out.block _ (lt_of_block HRG.out)).trans HRG.out))
   have HE9:=ZZ (show Ext w (put3at w6 go 0 (.bool s6) (.slice A6 k6 ca6) (.slice B6 l6 cb6)) from (((al HE.out K6.out).setCell HGD.out.2.1 _).setCell HGD.out.2.1 _).setCell HGD.out.2.1 _)
   go_roundg (gk - 1)
   case measure=>have:=HZ.out;omega
   case rel=>exact⟨j+1,ZZ (by have:=HJ.out;have:=HZ.out;omega),by have h1:=HKN.out;have h2:=HJN.out;rw [IntWalk.wrap64_in _ ⟨by omega,by omega⟩];rfl,HM9,HR9,HE9⟩
theorem BlC.imp {C D:Nat→Prop} {v:Value} (h:BlC C v) (k:∀b,C b→D b):BlC D v:=fun a n c e h0=>k _ (h a n c e h0)
theorem BlN.imp {C D:Nat→Prop} {v:Value} (h:BlN C v) (k:∀b,C b→D b):BlN D v:=fun s A n c A' l d e=>⟨(h s A n c A' l d e).1.imp k,(h s A n c A' l d e).2.imp k⟩
theorem BlN.both {C D:Nat→Prop} {v:Value} (h:BlN C v) (h':BlN D v):BlN (fun b=>C b∧D b) v:=fun s A n c A' l d e=>
 ⟨fun a m c0 e0 h0=>⟨(h s A n c A' l d e).1 a m c0 e0 h0,(h' s A n c A' l d e).1 a m c0 e0 h0⟩,fun a m c0 e0 h0=>⟨(h s A n c A' l d e).2 a m c0 e0 h0,(h' s A n c A' l d e).2 a m c0 e0 h0⟩⟩
theorem Wr.keepB {W W':World} {v:Value} {n:Nat} {C:Nat→Prop} (h:Wr W v n) (hb:BlC C v) (hk:∀b,C b→W'.heap[b]?=W.heap[b]?):Wr W' v n:=by
 obtain⟨A,cc,e,hc,hcl⟩:=h;refine⟨A,cc,e,hc,?_⟩
 rcases hcl with h0|⟨b,o,hA,hce⟩
 ·exact .inl h0
 ·refine .inr ⟨b,o,hA,fun j hj=>?_⟩
  rw [←hce j hj];exact World.cell?_of_block (hk b (hb ⟨b,o,none⟩ _ cc (by rw [e,hA]) (by simp at hj;omega)))
theorem Wr.old {w:World} {v:Value} {n:Nat} (h:Wr w v n):BlC (·<w.heap.size) v:=by
 rintro a k c e h0;obtain⟨A,cc,e1,hc,hcl⟩:=h;rw [e1] at e
 injection e with ea ek ec
 rcases hcl with h1|⟨b,o,hA,hce⟩
 ·rw [←ek] at h0
  simp at h1
  rw [h1] at h0
  cases h0
 ·rw [hA] at ea
  injection ea with ea
  rw [←ea];have h2:=hce 0 (by simp;omega);exact World.block_lt_of_cell? w _ h2
theorem Nr.keepB {W W':World} {v:Value} {q:Rat} {C:Nat→Prop} (h:Nr W v q) (hb:BlN C v) (hk:∀b,C b→W'.heap[b]?=W.heap[b]?):Nr W' v q:=by
 obtain⟨s,vt,vb,e,hs,h1,h2⟩:=h;obtain⟨A,c,e1,-,-⟩:=id h1;obtain⟨A',c',e2,-,-⟩:=id h2;obtain⟨f1,f2⟩:=hb s A _ c A' _ c' (by rw [e,e1,e2]);exact⟨s,vt,vb,e,hs,h1.keepB (by rw [e1];exact f1) hk,h2.keepB (by rw [e2];exact f2) hk⟩
theorem Nr.old {w:World} {v:Value} {q:Rat} (h:Nr w v q):BlN (·<w.heap.size) v:=by
 obtain⟨s,vt,vb,e,hs,h1,h2⟩:=h;intro s1 A1 k1 c1 A2 l2 d2 e';rw [e] at e'
 simp only [Value.agg.injEq,Array.mk.injEq,List.cons.injEq] at e'
 obtain⟨-,rfl,rfl,-⟩:=e';exact⟨h1.old,h2.old⟩
def TriR (w:World) (b j:Nat) (q:Rat):Prop:=∃s A k ca B m cb,w.cell? ⟨b,j,none⟩=some (.int .i64 s)∧w.cell? ⟨b,j+1,none⟩=some (.slice A k ca)∧w.cell? ⟨b,j+2,none⟩=some (.slice B m cb)∧Nr w (.agg #[.int .i64 s,.slice A k ca,.slice B m cb]) q
theorem TriR.mono {w w':World} {b j:Nat} {q:Rat} (h:TriR w b j q) (k:Ext w w'):TriR w' b j q:=by
 obtain⟨s,A,m,ca,B,n,cb,h1,h2,h3,h4⟩:=h;exact⟨s,A,m,ca,B,n,cb,ao k h1,ao k h2,ao k h3,h4.mono k⟩
def PlR (w:World) (v:Value) (l:List Rat):Prop:=∃A cap,v=.slice A l.length cap∧l.length≤cap∧((A=none∧l=[])∨∃b o,A=some ⟨b,o,none⟩∧∀i q,l[i]?=some q→TriR w b (o+i*3) q)
theorem PlR.mono {w w':World} {v:Value} {l:List Rat} (h:PlR w v l) (k:Ext w w'):PlR w' v l:=by
 obtain⟨A,cap,h1,h2,h3⟩:=h;refine⟨A,cap,h1,h2,?_⟩
 rcases h3 with h3|⟨b,o,h4,h5⟩
 ·exact .inl h3
 ·exact .inr ⟨b,o,h4,fun i q hq=>(h5 i q hq).mono k⟩
theorem PlR.nil (w:World):PlR w (.slice none 0 0) []:=⟨none,0,rfl,Nat.le_refl _,.inl ⟨rfl,rfl⟩⟩
theorem PlR.form {w:World} {v:Value} {l:List Rat} (h:PlR w v l):∃A c,v=.slice A l.length c:=by
 obtain⟨A,c,e,-⟩:=h;exact⟨A,c,e⟩
theorem PlR.take {w:World} {A:Option Addr} {n cap:Nat} {l:List Rat} (h:PlR w (.slice A n cap) l) {k:Nat} (hk:k≤l.length):PlR w (.slice A k cap) (l.take k):=by
 obtain⟨A',cap',e,h2,h3⟩:=h
 injection e with e1 e2 e3
 subst e1 e2 e3;have hl:(l.take k).length=k:=by simp [hk]
 refine⟨A,cap,by rw [hl],by rw [hl];omega,?_⟩
 rcases h3 with ⟨h4,h5⟩|⟨b,o,h4,h5⟩
 ·exact .inl ⟨h4,by rw [h5];simp⟩
 ·refine .inr ⟨b,o,h4,fun i q hq=>h5 i q ?_⟩
  rw [List.getElem?_take] at hq
  split at hq
  ·exact hq
  ·cases hq
theorem plr_of_own {w:World} {B:Nat} {v:Value} {l:List Rat} {xs:List Value} {C:Value→Prop} (h:OwnG w B 59 3 C v l.length xs) (hx:∀i q,l[i]?=some q→∃s A k ca C m cb,xs[i*3]?=some (.int .i64 s)∧xs[i*3+1]?=some (.slice A k ca)∧xs[i*3+2]?=some (.slice C m cb)∧Nr w (.agg #[.int .i64 s,.slice A k ca,.slice C m cb]) q):PlR w v l:=by
 obtain⟨hlen,h2⟩:=h
 rcases h2 with ⟨rfl,h0⟩|⟨g,cap,cur,rfl,-,hg,hc,-,-,ht,-⟩
 ·rw [List.length_eq_zero_iff.1 h0];exact PlR.nil w
 ·refine⟨_,cap,rfl,hc,.inr ⟨g,0,rfl,fun i q hq=>?_⟩⟩
  obtain⟨s,A,k,ca,C,m,cb,x0,x1,x2,hn⟩:=hx i q hq
  have key:∀(j:Nat) (u:Value),xs[j]?=some u→w.cell? ⟨g,j,none⟩=some u:=fun j u hu=>by
   rw [cell_of_row w g j _ _ _ hg];rw [←ht,List.getElem?_take] at hu
   split at hu
   ·simpa using hu
   ·cases hu
  rw [Nat.zero_add];exact⟨s,A,k,ca,C,m,cb,key _ _ x0,key _ _ x1,key _ _ x2,hn⟩
end Go.Proofs.YtkoaakefgacokaaGreatDoor
