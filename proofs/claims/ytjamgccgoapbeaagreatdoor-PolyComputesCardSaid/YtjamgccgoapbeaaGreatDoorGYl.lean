/- Spans: quotients. Printed by gen_sd.py. Plain laws: what is written is read back. Plain laws of the reference's powers of ten, of its Read and Show. Spans: a square. The reference's engineering texts, read. Printed by gen_rw.py. The reference's engineering texts, shown. Printed by gen_rx.py. The laws' helper spans: four texts are read; numbers keep clear of blocks that hold none of their digits. Printed by gen_se.py. Powers of two; the ends of a span in order. Printed by gen_yj.py. The ends of a span in order; roots in a span. Printed by gen_yk.py. Roots in a span; the sign everywhere in a span; the sign at a root. Printed by gen_yl.py. -/
import Derived.Test.YtjamgccgoapbeaaGreatDoorGSa
import Derived.Test.YtjamgccgoapbeaaGreatDoorGVx
import Derived.Deep.DeepCutAuto
import Derived.Test.YtjamgccgoapbeaaGreatDoorGRo
import Derived.Deep.LoopGhost
import Derived.BigQuiet
import Derived.Test.YtjamgccgoapbeaaGreatDoorGRm
import Derived.BigRegion
import Derived.Test.YtjamgccgoapbeaaGreatDoorGYi
import Derived.Test.YtjamgccgoapbeaaGreatDoorGYb
set_option linter.unusedVariables false
set_option maxRecDepth 100000
set_option maxHeartbeats 64000000
namespace Go.Proofs.YtjamgccgoapbeaaGreatDoor
open Go.RowKit
end Go.Proofs.YtjamgccgoapbeaaGreatDoor
set_option linter.unusedVariables false
set_option maxRecDepth 100000
set_option maxHeartbeats 64000000
namespace Go.Proofs.YtjamgccgoapbeaaGreatDoor
open Go Go.Lib
end Go.Proofs.YtjamgccgoapbeaaGreatDoor
set_option linter.unusedVariables false
set_option maxRecDepth 100000
set_option maxHeartbeats 64000000
namespace Go.Proofs.YtjamgccgoapbeaaGreatDoor
open Go Go.Lib
end Go.Proofs.YtjamgccgoapbeaaGreatDoor
set_option linter.unusedVariables false
set_option maxRecDepth 100000
set_option maxHeartbeats 64000000
namespace Go.Proofs.YtjamgccgoapbeaaGreatDoor
open Go.RowKit
end Go.Proofs.YtjamgccgoapbeaaGreatDoor
set_option linter.unusedVariables false
set_option maxRecDepth 100000
set_option maxHeartbeats 64000000
namespace Go.Proofs.YtjamgccgoapbeaaGreatDoor
open Go.RowKit
end Go.Proofs.YtjamgccgoapbeaaGreatDoor
set_option linter.unusedVariables false
set_option maxRecDepth 100000
set_option maxHeartbeats 64000000
namespace Go.Proofs.YtjamgccgoapbeaaGreatDoor
open Go.RowKit
end Go.Proofs.YtjamgccgoapbeaaGreatDoor
set_option linter.unusedVariables false
set_option maxRecDepth 100000
set_option maxHeartbeats 64000000
namespace Go.Proofs.YtjamgccgoapbeaaGreatDoor
open Go.RowKit
def SpR (w:World) (v:Value) (lo hi:Rat):Prop:=∃x0 x1 x2 y0 y1 y2,v=.agg #[x0,x1,x2,y0,y1,y2]∧Nr w (.agg #[x0,x1,x2]) lo∧Nr w (.agg #[y0,y1,y2]) hi
theorem SpR.mono {w w':World} {v:Value} {lo hi:Rat} (h:SpR w v lo hi) (k:Ext w w'):SpR w' v lo hi:=by
 obtain⟨x0,x1,x2,y0,y1,y2,e,h1,h2⟩:=h;exact⟨x0,x1,x2,y0,y1,y2,e,h1.mono k,h2.mono k⟩
def NoDig (W:World) (g:Nat):Prop:=∀(j:Nat),(∀z:Int,W.cell? ⟨g,j,none⟩≠some (.int .u64 z))∧(∀z:Int,0<z→W.cell? ⟨g,j,none⟩≠some (.int .i64 z))
theorem nodig6 {W:World} {g:Nat} {a b c d e f:Value} {T:TypeId} (h:W.heap[g]?=some (.cells #[a,b,c,d,e,f] T (0,0))) (hn:∀x,x=a∨x=b∨x=c∨x=d∨x=e∨x=f→(∀z:Int,x≠.int .u64 z)∧(∀z:Int,0<z→x≠.int .i64 z)):NoDig W g:=by
 intro j
 have key:∀x,W.cell? ⟨g,j,none⟩=some x→x=a∨x=b∨x=c∨x=d∨x=e∨x=f:=by
  intro x hx
  simp only [World.cell?,h] at hx
  rcases Nat.lt_or_ge j 6 with h3|h3
  ·rcases(show j=0∨j=1∨j=2∨j=3∨j=4∨j=5 by omega) with rfl|rfl|rfl|rfl|rfl|rfl <;> simp at hx <;> simp [hx]
  ·rw [Array.getElem?_eq_none (by simpa using h3)] at hx
   simp at hx
 exact⟨fun z hz=>(hn _ (key _ hz)).1 z rfl,fun z hp hz=>(hn _ (key _ hz)).2 z hp rfl⟩
theorem nodigR {W:World} {g:Nat} {A B C D:Option Addr} {k ca l cb m cc n cd:Nat} {T:TypeId} (h:W.heap[g]?=some (.cells #[.int .i64 0,.slice A k ca,.slice B l cb,.int .i64 0,.slice C m cc,.slice D n cd] T (0,0))):NoDig W g:=
 nodig6 h (fun x hx=>by
  rcases hx with rfl|rfl|rfl|rfl|rfl|rfl <;> refine⟨(fun z e=>by cases e),(fun z hz e=>?_)⟩
  all_goals first|(cases e;done)|(injection e with e1 e2;omega))
theorem Wd.keep {W W':World} {v:Value} {n g:Nat} (h:Wd W v n) (hg:NoDig W g) (hk:∀b,b≠g→W'.heap[b]?=W.heap[b]?):Wd W' v n:=by
 obtain⟨A,cc,e,hc,hcl⟩:=h;refine⟨A,cc,e,hc,?_⟩
 rcases Nat.eq_zero_or_pos (dg n).length with h0|h0
 ·left;rw [List.length_eq_zero_iff.1 h0];rfl
 ·obtain⟨bl,o,hA,hce⟩:=hcl.at_ (by simpa using h0)
  right
  refine⟨bl,o,hA,fun j hj=>?_⟩;have hj':j<(dg n).length:=by simpa using hj
  have h1:=hce j hj
  have hne:bl≠g:=by
   intro hb;subst hb;rw [getD_map_u64 _ _ hj'] at h1;exact(hg _).1 _ h1
  rw [←h1];exact World.cell?_of_block (hk _ hne)
theorem Wr.keep {W W':World} {v:Value} {n g:Nat} (h:Wr W v n) (hg:NoDig W g) (hk:∀b,b≠g→W'.heap[b]?=W.heap[b]?):Wr W' v n:=by
 obtain⟨A,cc,e,hc,hcl⟩:=h;refine⟨A,cc,e,hc,?_⟩
 rcases Nat.eq_zero_or_pos n with h0|h0
 ·left;subst h0;rw [dr_zero];rfl
 ·obtain⟨t1,t2,t3,-,-⟩:=dr_top h0
  have hcl':=hcl;obtain⟨bl,o,hA,hce⟩:=hcl.at_ (by simpa using t3);obtain⟨bl',o',hA',hce'⟩:=hcl'.i t3
  right
  refine⟨bl,o,hA,fun j hj=>?_⟩
  have hne:bl≠g:=by
   intro hb;rw [hA] at hA'
   injection hA' with e1
   injection e1 with e2 e3
   have h1:=hce' ((dr n).length - 1) (by omega);rw [←e2,hb] at h1;exact(hg _).2 _ (by omega) h1
  rw [←hce j hj];exact World.cell?_of_block (hk _ hne)
theorem Nm.keep {W W':World} {v:Value} {q:Rat} {g:Nat} (h:Nm W v q) (hg:NoDig W g) (hk:∀b,b≠g→W'.heap[b]?=W.heap[b]?):Nm W' v q:=by
 obtain⟨vn,vd,e,h1,h2⟩:=h;exact⟨vn,vd,e,h1.keep hg hk,h2.keep hg hk⟩
theorem Nr.keep {W W':World} {v:Value} {q:Rat} {g:Nat} (h:Nr W v q) (hg:NoDig W g) (hk:∀b,b≠g→W'.heap[b]?=W.heap[b]?):Nr W' v q:=by
 obtain⟨s,vt,vb,e,hs,h1,h2⟩:=h;exact⟨s,vt,vb,e,hs,h1.keep hg hk,h2.keep hg hk⟩
theorem put6_keep (W:World) (g:Nat) (a b c d e f:Value):∀k,k≠g→(put6 W g a b c d e f).heap[k]?=W.heap[k]?:=by
 intro k hne;unfold put6;rw [Below.heap_setCell _ _ _ _ hne,Below.heap_setCell _ _ _ _ hne,Below.heap_setCell _ _ _ _ hne,Below.heap_setCell _ _ _ _ hne,Below.heap_setCell _ _ _ _ hne,Below.heap_setCell _ _ _ _ hne]
def subs4:List (List Nat):=[[22,23,24,25],[23,24,25],[24,25],[25],[]]
theorem subs4_nodup:∀rs ∈ subs4,rs.Nodup:=by decide
def IS4 (B Z1 Z2 Z3 Z4 F1 F2 F3 F4:World→Prop) (rs:List Nat) (W:World):Prop:=
 B W∧(22 ∈ rs→Z1 W)∧(22 ∉ rs→F1 W)∧(23 ∈ rs→Z2 W)∧(23 ∉ rs→F2 W)∧(24 ∈ rs→Z3 W)∧(24 ∉ rs→F3 W)∧(25 ∈ rs→Z4 W)∧(25 ∉ rs→F4 W)
theorem IS4.s1 {B Z1 Z2 Z3 Z4 F1 F2 F3 F4:World→Prop} {rs:List Nat} {W W':World} (h:IS4 B Z1 Z2 Z3 Z4 F1 F2 F3 F4 rs W) (hr:rs ∈ subs4) (hB:B W') (hF:F1 W') (z2:Z2 W→Z2 W') (f2:F2 W→F2 W') (z3:Z3 W→Z3 W') (f3:F3 W→F3 W') (z4:Z4 W→Z4 W') (f4:F4 W→F4 W'):IS4 B Z1 Z2 Z3 Z4 F1 F2 F3 F4 (rs.erase 22) W':=by
 have hn:=subs4_nodup rs hr;obtain⟨-,a1,b1,a2,b2,a3,b3,a4,b4⟩:=h;refine⟨hB,fun hm=>absurd hm (List.Nodup.not_mem_erase hn),fun _=>hF,fun hm=>z2 (a2 (List.mem_of_mem_erase hm)),fun hm=>f2 (b2 (fun hm2=>hm ((List.mem_erase_of_ne (by decide)).2 hm2))),fun hm=>z3 (a3 (List.mem_of_mem_erase hm)),fun hm=>f3 (b3 (fun hm2=>hm ((List.mem_erase_of_ne (by decide)).2 hm2))),fun hm=>z4 (a4 (List.mem_of_mem_erase hm)),fun hm=>f4 (b4 (fun hm2=>hm ((List.mem_erase_of_ne (by decide)).2 hm2)))⟩
theorem IS4.s2 {B Z1 Z2 Z3 Z4 F1 F2 F3 F4:World→Prop} {rs:List Nat} {W W':World} (h:IS4 B Z1 Z2 Z3 Z4 F1 F2 F3 F4 rs W) (hr:rs ∈ subs4) (hB:B W') (hF:F2 W') (z1:Z1 W→Z1 W') (f1:F1 W→F1 W') (z3:Z3 W→Z3 W') (f3:F3 W→F3 W') (z4:Z4 W→Z4 W') (f4:F4 W→F4 W'):IS4 B Z1 Z2 Z3 Z4 F1 F2 F3 F4 (rs.erase 23) W':=by
 have hn:=subs4_nodup rs hr;obtain⟨-,a1,b1,a2,b2,a3,b3,a4,b4⟩:=h;refine⟨hB,fun hm=>z1 (a1 (List.mem_of_mem_erase hm)),fun hm=>f1 (b1 (fun hm2=>hm ((List.mem_erase_of_ne (by decide)).2 hm2))),fun hm=>absurd hm (List.Nodup.not_mem_erase hn),fun _=>hF,fun hm=>z3 (a3 (List.mem_of_mem_erase hm)),fun hm=>f3 (b3 (fun hm2=>hm ((List.mem_erase_of_ne (by decide)).2 hm2))),fun hm=>z4 (a4 (List.mem_of_mem_erase hm)),fun hm=>f4 (b4 (fun hm2=>hm ((List.mem_erase_of_ne (by decide)).2 hm2)))⟩
theorem IS4.s3 {B Z1 Z2 Z3 Z4 F1 F2 F3 F4:World→Prop} {rs:List Nat} {W W':World} (h:IS4 B Z1 Z2 Z3 Z4 F1 F2 F3 F4 rs W) (hr:rs ∈ subs4) (hB:B W') (hF:F3 W') (z1:Z1 W→Z1 W') (f1:F1 W→F1 W') (z2:Z2 W→Z2 W') (f2:F2 W→F2 W') (z4:Z4 W→Z4 W') (f4:F4 W→F4 W'):IS4 B Z1 Z2 Z3 Z4 F1 F2 F3 F4 (rs.erase 24) W':=by
 have hn:=subs4_nodup rs hr;obtain⟨-,a1,b1,a2,b2,a3,b3,a4,b4⟩:=h;refine⟨hB,fun hm=>z1 (a1 (List.mem_of_mem_erase hm)),fun hm=>f1 (b1 (fun hm2=>hm ((List.mem_erase_of_ne (by decide)).2 hm2))),fun hm=>z2 (a2 (List.mem_of_mem_erase hm)),fun hm=>f2 (b2 (fun hm2=>hm ((List.mem_erase_of_ne (by decide)).2 hm2))),fun hm=>absurd hm (List.Nodup.not_mem_erase hn),fun _=>hF,fun hm=>z4 (a4 (List.mem_of_mem_erase hm)),fun hm=>f4 (b4 (fun hm2=>hm ((List.mem_erase_of_ne (by decide)).2 hm2)))⟩
theorem IS4.s4 {B Z1 Z2 Z3 Z4 F1 F2 F3 F4:World→Prop} {rs:List Nat} {W W':World} (h:IS4 B Z1 Z2 Z3 Z4 F1 F2 F3 F4 rs W) (hr:rs ∈ subs4) (hB:B W') (hF:F4 W') (z1:Z1 W→Z1 W') (f1:F1 W→F1 W') (z2:Z2 W→Z2 W') (f2:F2 W→F2 W') (z3:Z3 W→Z3 W') (f3:F3 W→F3 W'):IS4 B Z1 Z2 Z3 Z4 F1 F2 F3 F4 (rs.erase 25) W':=by
 have hn:=subs4_nodup rs hr;obtain⟨-,a1,b1,a2,b2,a3,b3,a4,b4⟩:=h;refine⟨hB,fun hm=>z1 (a1 (List.mem_of_mem_erase hm)),fun hm=>f1 (b1 (fun hm2=>hm ((List.mem_erase_of_ne (by decide)).2 hm2))),fun hm=>z2 (a2 (List.mem_of_mem_erase hm)),fun hm=>f2 (b2 (fun hm2=>hm ((List.mem_erase_of_ne (by decide)).2 hm2))),fun hm=>z3 (a3 (List.mem_of_mem_erase hm)),fun hm=>f3 (b3 (fun hm2=>hm ((List.mem_erase_of_ne (by decide)).2 hm2))),fun hm=>absurd hm (List.Nodup.not_mem_erase hn),fun _=>hF⟩
end Go.Proofs.YtjamgccgoapbeaaGreatDoor
set_option linter.unusedVariables false
set_option maxRecDepth 100000
set_option maxHeartbeats 64000000
namespace Go.Proofs.YtjamgccgoapbeaaGreatDoor
open Go Go.RowKit
set_option linter.unusedSimpArgs false
def pw2 (n:Nat):Rat:=(((2 ^ n:Nat):Int):Rat)
theorem pw2_succ (n:Nat):pw2 n+pw2 n=pw2 (n+1):=by
 unfold pw2;rw [Nat.pow_succ,show (((2 ^ n*2:Nat):Int))=((2 ^ n:Nat):Int)+((2 ^ n:Nat):Int) by omega,Rat.intCast_add]
theorem pw2_ne (n:Nat):pw2 n≠0:=by
 unfold pw2;intro h;have h1:(((2 ^ n:Nat):Int))=0:=by exact_mod_cast h
 have h2:=Nat.two_pow_pos n;omega
theorem bq_pw2 (n:Nat):Bq (n+1) (pw2 n):=by
 unfold pw2;refine⟨?_,?_⟩
 ·rw [Rat.num_intCast,Int.natAbs_natCast]
  exact Nat.pow_lt_pow_right (by decide) (Nat.lt_succ_self n)
 ·rw [Rat.den_intCast]
  exact Nat.one_lt_two_pow (Nat.succ_ne_zero n)
def powF (k:Int):Rat:=if k<0 then 1 / pw2 k.natAbs else pw2 k.natAbs
theorem bq_powF (k:Int):Bq (k.natAbs+1) (powF k):=by
 unfold powF
 split
 ·exact bq_inv2 (bq_pw2 _) (pw2_ne _)
 ·exact bq_pw2 _
theorem power_p (k:Int) (hk:k.natAbs≤100000) (w:World):Calls Tryz.prog 61 #[.int .i64 k] w fun e w'=>∃v',e=.returned v'∧Nm w' v' (powF k)∧Ext w w':=by
 obtain⟨n,hn⟩:∃n,k.natAbs=n:=⟨_,rfl⟩;have q1:IntKind.i64.wrap (-k) = -k:=IntWalk.i64_in _ (by omega);have q2:max k (-k)=(n:Int):=by omega
 have HKN:=ZZ (show n≤100000 by omega);have HN:=ZZ hn;have BONE:=ZZ (show Bq 64 (1:Rat) from bq_int 1 (by decide) (by decide));clear hk hn
 go_enter Tryz.func61,Tryz.ntmps61
 go_wp2_with fail;refine(int_q 1 (by decide) (by decide) _).mono ?_
 rintro e w3 ⟨v3,rfl,h3,kk3⟩;obtain⟨s3,A3,k3,ca3,B3,l3,cb3,rfl⟩:=h3.form2;have r1:=(kk3.block _ (lt_of_block (heap_alloc_new w (.cells #[.bool false,.slice none 0 0,.slice none 0 0] 35)))).trans (heap_alloc_new w (.cells #[.bool false,.slice none 0 0,.slice none 0 0] 35));have x4:=ab w3 (.cells #[.bool s3,.slice A3 k3 ca3,.slice B3 l3 cb3] 35);have R1:=ZZ ((x4.block _ (lt_of_block r1)).trans r1);have R2:=ZZ (heap_alloc_new w3 (.cells #[.bool s3,.slice A3 k3 ca3,.slice B3 l3 cb3] 35));have H3:=ZZ ((show Nm w3 (.agg #[.bool s3,.slice A3 k3 ca3,.slice B3 l3 cb3]) 1 from h3).mono x4);have E4:=ZZ (am (ab w (.cells #[.bool false,.slice none 0 0,.slice none 0 0] 35)) (am kk3 x4));have HS:=ZZ (show w.heap.size<w3.heap.size from by have h1:=lt_of_block r1;omega);clear h3 kk3 r1 x4
 go_upto_region 2 with (fail)
 generalize w3.alloc (.cells #[.bool s3,.slice A3 k3 ca3,.slice B3 l3 cb3] _)=W4 at *;obtain⟨gr,hgr⟩:∃g,w.heap.size=g:=⟨_,rfl⟩;obtain⟨go,hgo⟩:∃g,w3.heap.size=g:=⟨_,rfl⟩;rw [hgr] at R1;rw [hgo] at R2;have HGD:=ZZ (show w.heap.size≤gr∧w.heap.size≤go∧gr≠go from ⟨by omega,by have:=HS.out;omega,by have:=HS.out;omega⟩);rw [hgo,hgr];clear hgr hgo HS;go_wp2_with fail
 go_loopg [9] n (fun m i wr=>∃j,Hid (j+m=n)∧i=.int .i64 (j:Int)∧Hid (∃(s2:Bool) (A2:Option Addr) (k2 ca2:Nat) (B2:Option Addr) (l2 cb2:Nat),wr.heap[go]?=some (.cells #[.bool s2,.slice A2 k2 ca2,.slice B2 l2 cb2] 35 (0,0))∧Nm wr (.agg #[.bool s2,.slice A2 k2 ca2,.slice B2 l2 cb2]) (pw2 j))∧Hid (wr.heap[gr]?=some (.cells #[.bool false,.slice none 0 0,.slice none 0 0] 35 (0,0)))∧Hid (Ext w wr))
 case atStart=>exact⟨0,ZZ (Nat.zero_add _),rfl,ZZ ⟨_,_,_,_,_,_,_,R2.out,H3.out⟩,R1,E4⟩
 case round=>
  obtain⟨j,HJ,rfl,HMO,HRG,HE⟩:=hrel;rename World=>WR;obtain⟨s2,A2,k2,ca2,B2,l2,cb2,hm2,hn2⟩:=HMO.out;have HM2:=ZZ hm2;have NM0:=ZZ hn2;obtain⟨p0,p1,p2,pf0,pf1,pf2⟩:=aj hm2;clear hm2 hn2 HMO
  rcases Nat.eq_zero_or_pos gk with hz|hz
  ·subst hz
   obtain rfl:j=n:=HJ.out;obtain⟨n,hjn⟩:∃n,n=j:=⟨j,rfl⟩;subst hjn;have q3:decide ((n:Int)<(n:Int))=false:=decide_eq_false (Int.lt_irrefl _)
   by_cases hk:k<0
   ·have q4:decide (k<0)=true:=decide_eq_true hk
    have HPF:=ZZ (show powF k=1 / pw2 n by unfold powF;rw [if_pos hk,HN.out]);clear hk
    go_upto_region 7 with (fail)
    have HRO:=ZZ (show ∀W,Ext WR W→W.heap[go]?=some (.cells #[.bool s2,.slice A2 k2 ca2,.slice B2 l2 cb2] 35 (0,0)) from fun W k=>(k.block _ (lt_of_block HM2.out)).trans HM2.out)
    have HC7:=ZZ (show ∀W,Ext WR W→W.cell? ⟨go,0,none⟩=some (.bool s2)∧W.cell? ⟨go,1,none⟩=some (.slice A2 k2 ca2)∧W.cell? ⟨go,2,none⟩=some (.slice B2 l2 cb2) from fun W k=>by
     obtain⟨y0,y1,y2,-⟩:=aj (HRO.out W k);exact⟨y0,y1,y2⟩)
    have HRR:=ZZ (show ∀W,Ext WR W→W.heap[gr]?=some (.cells #[.bool false,.slice none 0 0,.slice none 0 0] 35 (0,0)) from fun W k=>(k.block _ (lt_of_block HRG.out)).trans HRG.out);clear p0 p1 p2 pf0 pf1 pf2;have hun:undef=.tuple #[]:=rfl;refine wp_region_noPanic ?_;refine region_L (S:=fun W=>W.cell? ⟨go,0,none⟩=some (.bool s2)∧W.cell? ⟨go,1,none⟩=some (.slice A2 k2 ca2)∧W.cell? ⟨go,2,none⟩=some (.slice B2 l2 cb2)) 3 (by kernel_rfl) (HC7.out _ (ac _)) (fun hHeld=>?_);refine take_b 1 18 ?_;refine call_L (i:=0) 17 rfl rfl (by kernel_rfl) (fun K hK=>?_)
    go_simp
    go_at_call 11
    refine(int_q 1 (by decide) (by decide) _).mono ?_;rintro e w5 ⟨v5,rfl,h5,kk5⟩;obtain⟨s5,A5,k5,ca5,B5,l5,cb5,rfl⟩:=h5.form2;have H5:=ZZ (show Nm w5 (.agg #[.bool s5,.slice A5 k5 ca5,.slice B5 l5 cb5]) 1 from h5);have hx1:=ZZ (show Ext WR w5 from am (ac _) kk5);clear h5 kk5
    try go_wp2_with fail
    refine hK.out _ _ (HC7.out _ hx1.out) (fun hHeld=>?_);clear hK K
    try simp only [Act.put,lyA,lyB,lyC]
    refine call_L (i:=2) 19 rfl rfl (by kernel_rfl) (fun K hK=>?_)
    go_simp
    go_at_call 101
    refine(over_q (n+64) (by have:=HKN.out;omega) _ _ 1 (pw2 n) _ H5.out (NM0.out.mono hx1.out) (BONE.out.mono (by omega)) ((bq_pw2 n).mono (by omega)) (pw2_ne n)).mono ?_;rintro e w6 ⟨v6,rfl,h6,kk6⟩;obtain⟨s6,A6,k6,ca6,B6,l6,cb6,rfl⟩:=h6.form2;have H6:=ZZ h6;have hx2:=ZZ (am hx1.out kk6);clear h6 kk6
    try go_wp2_with fail
    refine hK.out _ _ (HC7.out _ hx2.out) (fun hHeld=>?_);clear hK K
    try simp only [Act.put,lyA,lyB,lyC]
    refine last_L rfl (by kernel_rfl) (by kernel_rfl) (fun K hK=>?_);obtain⟨zz0,zz1,zz2,zf0,zf1,zf2⟩:=aj (HRO.out w6 hx2.out)
    go_simp
    refine hK.out _ _ ?_;clear hK K
    try simp only [Act.put,lyA,lyB,lyC]
    refine NoPanic.normal ?_;have r8:=put3b_row (HRO.out w6 hx2.out) (.bool s6) (.slice A6 k6 ca6) (.slice B6 l6 cb6);have n8:=nm_put3b H6.out (HRO.out w6 hx2.out) (.bool s6) (.slice A6 k6 ca6) (.slice B6 l6 cb6);have rr8:(put3at w6 go 0 (.bool s6) (.slice A6 k6 ca6) (.slice B6 l6 cb6)).heap[gr]?=some (.cells #[.bool false,.slice none 0 0,.slice none 0 0] 35 (0,0)):=(put3b_other _ _ _ HGD.out.2.2).trans (HRR.out w6 hx2.out);have e8:Ext w (put3at w6 go 0 (.bool s6) (.slice A6 k6 ca6) (.slice B6 l6 cb6)):=(((am HE.out hx2.out).setCell HGD.out.2.1 _).setCell HGD.out.2.1 _).setCell HGD.out.2.1 _;clear zz0 zz1 zz2 zf0 zf1 zf2;generalize hW8:(World.setCell (World.setCell (World.setCell w6 ⟨go,0,none⟩ (.bool s6)) ⟨go,1,none⟩ (.slice A6 k6 ca6)) ⟨go,2,none⟩ (.slice B6 l6 cb6))=W8;have hW8':put3at w6 go 0 (.bool s6) (.slice A6 k6 ca6) (.slice B6 l6 cb6)=W8:=hW8;rw [hW8'] at r8 n8 rr8 e8;obtain⟨t0,t1,t2,tf0,tf1,tf2⟩:=aj r8;obtain⟨u0,u1,u2,uf0,uf1,uf2⟩:=aj rr8;have RR8:=ZZ rr8;have N8:=ZZ n8;have E8:=ZZ e8;clear r8 n8 rr8 e8 hW8 hW8'
    go_upto_region 8 with (fail)
    have hr9:=put3b_row RR8.out (.bool s6) (.slice A6 k6 ca6) (.slice B6 l6 cb6);have hn9:=nm_put3b N8.out RR8.out (.bool s6) (.slice A6 k6 ca6) (.slice B6 l6 cb6);have he9:Ext w (put3at W8 gr 0 (.bool s6) (.slice A6 k6 ca6) (.slice B6 l6 cb6)):=((E8.out.setCell HGD.out.1 _).setCell HGD.out.1 _).setCell HGD.out.1 _;have HR9:=ZZ hr9;have HN9:=ZZ hn9;have HE9:=ZZ he9;clear hr9 hn9 he9;go_wp2_with fail;have hr9:=HR9.out;obtain⟨y0,y1,y2,-⟩:=aj hr9;clear hr9;refine bodyPost_ret (v:=.agg #[.bool s6,.slice A6 k6 ca6,.slice B6 l6 cb6]) (by simp [results,Tryz.f61];go_simp) rfl ?_;exact⟨_,rfl,by rw [HPF.out];exact HN9.out,HE9.out⟩
   ·have q4:decide (k<0)=false:=decide_eq_false hk
    have HPF:=ZZ (show powF k=pw2 n by unfold powF;rw [if_neg hk,HN.out]);obtain⟨u0,u1,u2,uf0,uf1,uf2⟩:=aj HRG.out;clear hk
    go_upto_region 8 with (fail)
    have HR9:=ZZ (put3b_row HRG.out (.bool s2) (.slice A2 k2 ca2) (.slice B2 l2 cb2));have HN9:=ZZ (nm_put3b NM0.out HRG.out (.bool s2) (.slice A2 k2 ca2) (.slice B2 l2 cb2));have HE9:=ZZ (show Ext w (put3at WR gr 0 (.bool s2) (.slice A2 k2 ca2) (.slice B2 l2 cb2)) from ((HE.out.setCell HGD.out.1 _).setCell HGD.out.1 _).setCell HGD.out.1 _);go_wp2_with fail;have hr9:=HR9.out;obtain⟨y0,y1,y2,-⟩:=aj hr9;clear hr9;refine bodyPost_ret (v:=.agg #[.bool s2,.slice A2 k2 ca2,.slice B2 l2 cb2]) (by simp [results,Tryz.f61];go_simp) rfl ?_;exact⟨_,rfl,by rw [HPF.out];exact HN9.out,HE9.out⟩
  ·have hjn:j<n:=by have:=HJ.out;omega
   have q3:decide ((j:Int)<(n:Int))=true:=decide_eq_true (by omega);have q3':decide (j<n)=true:=decide_eq_true hjn;have HZ:=ZZ hz;have HJN:=ZZ hjn;clear hz hjn;go_wp2_with fail;refine(add_q (n+1) (by have:=HKN.out;omega) _ _ (pw2 j) (pw2 j) _ NM0.out NM0.out ((bq_pw2 j).mono (by have:=HJN.out;omega)) ((bq_pw2 j).mono (by have:=HJN.out;omega))).mono ?_;rintro e w6 ⟨v6,rfl,h6,kk6⟩;obtain⟨s6,A6,k6,ca6,B6,l6,cb6,rfl⟩:=h6.form2;rw [pw2_succ] at h6;have H6:=ZZ h6;have K6:=ZZ kk6;have HR6:=ZZ ((kk6.block _ (lt_of_block HM2.out)).trans HM2.out);obtain⟨t0,t1,t2,tf0,tf1,tf2⟩:=aj HR6.out;clear h6 kk6 p0 p1 p2 pf0 pf1 pf2;go_wp2_with fail;have HM9:=ZZ (show ∃(s2:Bool) (A2:Option Addr) (k2 ca2:Nat) (B2:Option Addr) (l2 cb2:Nat),(put3at w6 go 0 (.bool s6) (.slice A6 k6 ca6) (.slice B6 l6 cb6)).heap[go]?=some (.cells #[.bool s2,.slice A2 k2 ca2,.slice B2 l2 cb2] 35 (0,0))∧Nm (put3at w6 go 0 (.bool s6) (.slice A6 k6 ca6) (.slice B6 l6 cb6)) (.agg #[.bool s2,.slice A2 k2 ca2,.slice B2 l2 cb2]) (pw2 (j+1)) from ⟨_,_,_,_,_,_,_,put3b_row HR6.out _ _ _,nm_put3b H6.out HR6.out _ _ _⟩);have HR9:=ZZ (show (put3at w6 go 0 (.bool s6) (.slice A6 k6 ca6) (.slice B6 l6 cb6)).heap[gr]?=some (.cells #[.bool false,.slice none 0 0,.slice none 0 0] 35 (0,0)) from (put3b_other _ _ _ HGD.out.2.2).trans ((K6.out.block _ (lt_of_block HRG.out)).trans HRG.out))
   have HE9:=ZZ (show Ext w (put3at w6 go 0 (.bool s6) (.slice A6 k6 ca6) (.slice B6 l6 cb6)) from (((am HE.out K6.out).setCell HGD.out.2.1 _).setCell HGD.out.2.1 _).setCell HGD.out.2.1 _)
   go_roundg (gk - 1)
   case measure=>have:=HZ.out;omega
   case rel=>exact⟨j+1,ZZ (by have:=HJ.out;have:=HZ.out;omega),by have h1:=HKN.out;have h2:=HJN.out;rw [IntWalk.wrap64_in _ ⟨by omega,by omega⟩];rfl,HM9,HR9,HE9⟩
end Go.Proofs.YtjamgccgoapbeaaGreatDoor
set_option linter.unusedVariables false
set_option maxRecDepth 100000
set_option maxHeartbeats 64000000
namespace Go.Proofs.YtjamgccgoapbeaaGreatDoor
open Go Go.RowKit
set_option linter.unusedSimpArgs false
section
variable {P:Program} {md:Region.Mode} {ops:Array Oper} {Q:Exit→Act→World→Prop} {S:World→Prop}
theorem two_p {fuel:Nat} {listed:Array Bool} {a:Act} {w:World} {i j:Nat} {oi oj:Oper} (hi:ops[i]?=some oi) (hj:ops[j]?=some oj) (hr:Region.ready md ops listed=[i,j]) (h1:∀K':Act→World→Prop,Shut (∀a w,S w→(S w→wpAnyH P md ops Q S fuel (listed.setIfInBounds i true) a w)→K' a w)→if Region.wanted oi (yielded ops a.tmps)=true then Oper.wp P oi a w K' Q else K' (a.put oi.dst undef) w) (h2:∀K':Act→World→Prop,Shut (∀a w,S w→(S w→wpAnyH P md ops Q S fuel (listed.setIfInBounds j true) a w)→K' a w)→if Region.wanted oj (yielded ops a.tmps)=true then Oper.wp P oj a w K' Q else K' (a.put oj.dst undef) w):wpAnyH P md ops Q S (fuel+1) listed a w:=wpAnyH_ready hr (by simp) (AllReadyH.cons hi h1 (AllReadyH.cons hj h2 AllReadyH.nil))
end
end Go.Proofs.YtjamgccgoapbeaaGreatDoor
set_option linter.unusedVariables false
set_option maxRecDepth 100000
set_option maxHeartbeats 64000000
namespace Go.Proofs.YtjamgccgoapbeaaGreatDoor
open Go Go.RowKit
set_option linter.unusedSimpArgs false
end Go.Proofs.YtjamgccgoapbeaaGreatDoor
